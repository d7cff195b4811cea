/- The iterator over the binary digits of a number: it hands out just the digits, the most significant one first. Each theorem names its conditions. -/
import Derived.Test.YtakbkbmjeanboaaGreatDoorLimB
import Derived.Test.YtakbkbmjeanboaaGreatDoorPowN
import Derived.Test.YtakbkbmjeanboaaGreatDoorRangp
import Derived.Test.YtakbkbmjeanboaaGreatDoorHeap
import Derived.OwnWalkIn
import Derived.OwnWalk
import Derived.TacticsInMore
import Derived.LoopNIn
import Derived.LoopIn
namespace Go.Proofs.YtakbkbmjeanboaaGreatDoor
open Go.RowKit Go.Shelf
open Dgt
set_option linter.unusedVariables false
attribute [local go_sem] Oper.semAt_some

theorem bits_and_u32_nat (a b : Nat) (ha : a < 4294967296) (hb : b < 4294967296) :
    bits .and .u32 (a : Int) (b : Int) = ((a &&& b : Nat) : Int) := by
  have hx : a &&& b < 2 ^ 32 := Nat.and_lt_two_pow _ (by omega)
  have h1 : (BitVec.ofInt 32 (a : Int)).toNat = a := by
    rw [BitVec.ofInt_natCast, BitVec.toNat_ofNat]; exact Nat.mod_eq_of_lt (by omega)
  have h2 : (BitVec.ofInt 32 (b : Int)).toNat = b := by
    rw [BitVec.ofInt_natCast, BitVec.toNat_ofNat]; exact Nat.mod_eq_of_lt (by omega)
  have e : ((BitVec.ofInt 32 (a : Int)) &&& (BitVec.ofInt 32 (b : Int))).toNat = a &&& b := by
    rw [BitVec.toNat_and, h1, h2]
  show IntKind.u32.wrap ((((BitVec.ofInt 32 (a : Int)) &&& (BitVec.ofInt 32 (b : Int))).toNat : Nat) : Int) = _
  rw [e, IntKind.wrap_u32']; omega
theorem bit_one (y : Nat) (hy : y < 4294967296) : (bits .and .u32 (y : Int) 1 == 1) = decide (y % 2 = 1) := by
  rw [show (1 : Int) = ((1 : Nat) : Int) from rfl, bits_and_u32_nat y 1 hy (by decide), Nat.and_one_is_mod]
  rw [Bool.eq_iff_iff, beq_iff_eq, decide_eq_true_eq]; omega
set_option maxHeartbeats 4000000 in
set_option maxRecDepth 100000 in
theorem digits_iter (v : Value) (l : List Nat) (Bn : Nat) (hlen : l.length ≤ 1000000000) :
    IterP Tryz.prog 78 #[.pointer (some ⟨Bn, 0, none⟩)] (fun b : Bool => #[Value.bool b]) (bitsL (valB 4294967296 l) (32 * l.length)) (fun w0 => w0.heap[Bn]? = some (.cells #[v] 61 (0, 0)) ∧ Lim w0 v l) := by
  intro f J W hkeep hround h0
  obtain ⟨hbW, hlW⟩ := hkeep _ _ h0
  obtain ⟨p, n, cap, rfl, hn, hc, hcm⟩ := hlW.open_
  obtain ⟨V, hV⟩ : ∃ V, valB 4294967296 l = V := ⟨_, rfl⟩
  obtain ⟨K, hK⟩ : ∃ K, 32 * l.length = K := ⟨_, rfl⟩
  rw [hV, hK] at hround ⊢
  have HV := Lib.hid hV; have HK := Lib.hid hK; have HN := Lib.hid hn
  have hcb := (box_cell hbW).1
  have hKn : (K : Int) = 32 * (n : Int) := by omega
  have hK9 : (n : Int) ≤ 1000000000 := by omega
  have HR := Lib.hid hround; have HKP := Lib.hid hkeep; have H0 := Lib.hid h0
  clear hround hkeep h0 hV hK hn hbW hlW
  refine callsIn_of_wp Tryz.func78 rfl trivial ?_ rfl
  simp only [Tryz.ntmps78, List.size_toArray, List.length_cons, List.length_nil, Nat.reduceAdd, Nat.reduceSub, Array.replicate_succ, Array.replicate_zero, List.push_toArray, List.append_toArray, List.nil_append, List.cons_append]
  gi_wp2_with fail
  rw [← hKn]
  have hK10 : (K : Int) ≤ 32000000000 := by omega
  clear hKn
  gi_loopw [3] (fun i wr => ∃ (j : Nat) (k : Int), j ≤ K ∧ i = .int .i64 k ∧ -1 ≤ k ∧ k ≤ 32000000000 ∧ Hid (k = (K : Int) - 1 - j) ∧ Hid (J ((bitsL V K).take j) wr)) (fun i _ => (intOf i + 1).toNat)
  case atStart => exact ⟨0, _, by omega, rfl, by omega, by omega, Lib.hid (by omega), Lib.hid (by rw [List.take_zero]; exact H0.out)⟩
  case round =>
    obtain ⟨j, k, hj, rfl, hk1, hk2, HKJ, HJQ⟩ := hrel
    obtain ⟨hbQ, hlQ⟩ := HKP.out _ _ HJQ.out
    have HLQ := Lib.hid hlQ
    have hcb := (box_cell hbQ).1
    clear hbQ hlQ
    by_cases hlt : 0 ≤ k
    · obtain ⟨kk, rfl⟩ : ∃ kk : Nat, k = (kk : Int) := ⟨k.toNat, by omega⟩
      have hjK : j < K := by have := HKJ.out; omega
      have hkk : K - 1 - j = kk := by have := HKJ.out; omega
      obtain ⟨q, hq⟩ : ∃ q, kk / 32 = q := ⟨_, rfl⟩
      obtain ⟨s, hs⟩ : ∃ s, kk % 32 = s := ⟨_, rfl⟩
      have hql : q < l.length := by have := HK.out; omega
      have hqn : (q : Int) < (n : Int) := by have := HN.out; omega
      obtain ⟨g, off, rfl, hg, hcell⟩ := HLQ.out.cell hql
      have hbit := bit_of HLQ.out.ok (k := kk) (by rw [hq]; exact hql)
      simp only [hq, hs, HV.out] at hbit
      obtain ⟨x, hx⟩ : ∃ x, l[q] = x := ⟨_, rfl⟩
      have hxl : x < 4294967296 := by rw [← hx]; exact HLQ.out.ok.get _
      rw [hx] at hcell hbit
      have hcut := bitsL_cut (n := V) (K := K) (j := j) hjK
      have htk := bitsL_take_succ (n := V) (K := K) (j := j) hjK
      rw [hkk, ← hbit] at hcut htk
      obtain ⟨y, hy⟩ : ∃ y, x / 2 ^ s = y := ⟨_, rfl⟩
      rw [hy] at hcut htk
      have hs32 : s < 32 := by omega
      have q1 : (kk : Int) / 32 = (q : Int) := by omega
      have q4 : (kk : Int) % 32 = (s : Int) := by omega
      have q6 : (x : Int) / 2 ^ s = (y : Int) := by rw [← hy]; simp
      have hyl : y < 4294967296 := by rw [← hy]; exact Nat.lt_of_le_of_lt (Nat.div_le_self _ _) hxl
      have q7 := bit_one y hyl
      obtain ⟨fn, tmps, assign, body, hyy, hR⟩ := HR.out _ _ _ wr hcut HJQ.out
      have HR2 := Lib.hid hR; have HT := Lib.hid htk; have HX := Lib.hid hx; have HQ := Lib.hid hq; have HS := Lib.hid hs; have HY := Lib.hid hy
      clear hR hcut htk hx hq hs hbit hy hjK hkk
      gi_wp2_with fail
      refine ⟨rfl, ?_⟩
      refine HR2.out.mono ?_
      rintro e W3 ⟨rfl, hJ3⟩
      have HJ3 : Hid (J ((bitsL V K).take (j + 1)) W3) := Lib.hid (by rw [← HT.out]; exact hJ3)
      clear hJ3 hyy hcell hcb q1 q4 q6 q7
      gi_wp2_with fail
      go_roundw
      case rel => exact ⟨j + 1, _, by have := HKJ.out; omega, rfl, by omega, by omega, Lib.hid (by have := HKJ.out; omega), HJ3⟩
      case measure => simp [intOf]
    · have hlt' : k < 0 := by omega
      have HJ4 : Hid (J (bitsL V K) wr) := Lib.hid (by have := HJQ.out; rwa [List.take_of_length_le (by rw [bitsL_len]; have := HKJ.out; omega)] at this)
      gi_wp2_with fail
      go_end0
      exact ⟨⟨_, rfl⟩, HJ4.out⟩
/-- digits: the iterator, over a box of its own -/
theorem digits_any (v : Value) (w : World) (hv : ∃ p n c, v = .slice p n c) :
    Calls Tryz.prog 55 #[v] w fun e w' => e = .returned (.func (.func 78) #[] #[.pointer (some ⟨w.heap.size, 0, none⟩)]) ∧ w' = w.alloc (.cells #[v] 61) := by
  obtain ⟨p, n, c, rfl⟩ := hv
  go_enter Tryz.func55, Tryz.ntmps55
  go_wp2_with fail
  go_ret
  exact ⟨rfl, rfl⟩
end Go.Proofs.YtakbkbmjeanboaaGreatDoor
