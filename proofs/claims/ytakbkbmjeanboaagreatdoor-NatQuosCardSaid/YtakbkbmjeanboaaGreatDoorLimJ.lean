/- take and give of package nat: they write into the block of their first argument. Each theorem names its conditions. -/
import Derived.Test.YtakbkbmjeanboaaGreatDoorLimI
import Derived.Deep.QuietTactic
namespace Go.Proofs.YtakbkbmjeanboaaGreatDoor
open Go.RowKit Go.Shelf
open Dgt
set_option linter.unusedVariables false

/-- v does not lie in block g -/
def offB (v : Value) (g : Nat) : Prop := ∀ b off n c, v = .slice (some ⟨b, off, none⟩) n c → b ≠ g
theorem LimK.cell_off {kd : IntKind} {B : Nat} {W : World} {p : Option Addr} {n cap g : Nat} {l : List Nat} (h : LimK kd B W (.slice p n cap) l) (ho : offB (.slice p n cap) g) {i : Nat} (hi : i < l.length) : ∃ b off, p = some ⟨b, off, none⟩ ∧ b < W.heap.size ∧ b ≠ g ∧ W.cell? ⟨b, off + i, none⟩ = some (.int kd (l[i] : Int)) := by
  obtain ⟨b, off, rfl, h1, h2⟩ := h.cell hi
  exact ⟨b, off, rfl, h1, ho b off n cap rfl, h2⟩
theorem LimK.fr {kd : IntKind} {B : Nat} {A W : World} {v : Value} {l : List Nat} {g : Nat} (h : LimK kd B A v l) (ho : offB v g) (hf : Fr (fun b => b = g) A W) : LimK kd B W v l := by
  obtain ⟨hk, p, cap, rfl, h2, h3, h4⟩ := h
  refine ⟨hk, p, cap, rfl, h2, h3, fun i hi => ?_⟩
  obtain ⟨b, off, rfl, e2, e3⟩ := h4 i hi
  exact ⟨b, off, rfl, Nat.lt_of_lt_of_le e2 hf.size, by rw [hf.cell e2 (ho b off _ _ rfl)]; exact e3⟩
theorem fr_drewN {m : Nat → Prop} {A B : World} (h : Fr m A B) (n : Nat) : Fr m A (B.drewN n) := ⟨h.os, h.tape, h.output, h.size, h.block⟩
/-- q times v is taken from u, up to place k -/
theorem take_step {q c b x y p r b' : Nat} {S lv uu : List Nat} {k : Nat} (hS : S.length = k) (hk : k < lv.length) (hx : lv[k] = x) (hku : k < uu.length) (hy : uu[k] = y) (hp : p = q * x + c)
    (hv : valB 4294967296 S + q * valB 4294967296 (lv.take k) = valB 4294967296 (uu.take k) + 4294967296 ^ k * (c + b)) (he : y + 4294967296 * b' = r + p % 4294967296 + b) :
    valB 4294967296 (S ++ [r]) + q * valB 4294967296 (lv.take (k + 1)) = valB 4294967296 (uu.take (k + 1)) + 4294967296 ^ (k + 1) * (p / 4294967296 + b') := by
  rw [valB_snoc, hS, valB_take_succ hk, valB_take_succ hku, hx, hy, Nat.mul_add q, Nat.pow_succ, Nat.mul_assoc]
  have e1 := congrArg (4294967296 ^ k * ·) he
  have e2 := congrArg (4294967296 ^ k * ·) hp
  have e3 := congrArg (4294967296 ^ k * ·) (Nat.mod_add_div p 4294967296)
  have e4 : q * (4294967296 ^ k * x) = 4294967296 ^ k * (q * x) := Nat.mul_left_comm _ _ _
  simp only [Nat.mul_add] at e1 e2 e3 hv ⊢
  omega
theorem give_step {c x y : Nat} {S lv uu : List Nat} {k : Nat} (hS : S.length = k) (hk : k < lv.length) (hx : lv[k] = x) (hku : k < uu.length) (hy : uu[k] = y)
    (hv : valB 4294967296 S + 4294967296 ^ k * c = valB 4294967296 (uu.take k) + valB 4294967296 (lv.take k)) :
    valB 4294967296 (S ++ [(y + x + c) % 4294967296]) + 4294967296 ^ (k + 1) * ((y + x + c) / 4294967296) = valB 4294967296 (uu.take (k + 1)) + valB 4294967296 (lv.take (k + 1)) := by
  have h := carry_step (B := 4294967296) (S := S) (y + x + c)
  rw [hS] at h
  rw [h, valB_take_succ hk, valB_take_succ hku, hx, hy]
  simp only [Nat.mul_add]
  omega
/-- the window of a list from j on, n + 1 long: what has been written, what is as it was -/
theorem win_set {X S W : List Nat} {j k x : Nat} (hX : X.length = j) (hS : S.length = k) (hk : k < W.length) : (X ++ (S ++ W.drop k)).set (j + k) x = X ++ ((S ++ [x]) ++ W.drop (k + 1)) := by
  subst hX; subst hS
  rw [List.set_append_right _ _ (by omega), Nat.add_sub_cancel_left, List.drop_eq_getElem_cons hk, set_here]
theorem win_get {X S W : List Nat} {j k : Nat} (hX : X.length = j) (hS : S.length = k) (hk : k < W.length) : (X ++ (S ++ W.drop k))[j + k]? = some W[k] := by
  subst hX; subst hS
  rw [List.getElem?_append_right (by omega), Nat.add_sub_cancel_left, List.getElem?_append_right (Nat.le_refl _), Nat.sub_self, List.drop_eq_getElem_cons hk]
  rfl
set_option maxHeartbeats 8000000 in
set_option maxRecDepth 100000 in
theorem take_any (g j n cap q : Nat) (U : List Nat) (vv : Value) (lv : List Nat) (w : World) (hU : w.heap[g]? = some (.cells (cellsK .u32 U) 52 (0, 0))) (hUo : okB 4294967296 U) (hn : lv.length = n) (hj : j + n < U.length) (hn0 : 0 < n) (hn9 : n ≤ 1000000000) (hv : Lim w vv lv) (hoff : offB vv g) (hq : q < 4294967296) :
    Calls Tryz.prog 71 #[.slice (some ⟨g, j, none⟩) (n + 1) cap, vv, .int .u64 (q : Int)] w fun e w' => ∃ (b : Nat) (R : List Nat), e = .returned (.bool (decide (b = 1))) ∧ b ≤ 1 ∧ R.length = n + 1 ∧ okB 4294967296 R ∧
      valB 4294967296 R + q * valB 4294967296 lv = valB 4294967296 ((U.drop j).take (n + 1)) + 4294967296 ^ (n + 1) * b ∧
      w'.heap[g]? = some (.cells (cellsK .u32 (U.take j ++ (R ++ U.drop (j + n + 1)))) 52 (0, 0)) ∧ Fr (fun b => b = g) w w' := by
  obtain ⟨pv, nv, cv, rfl, hnv, hcv, hcmv⟩ := hv.open_
  obtain rfl : nv = n := by omega
  obtain ⟨X, hX⟩ : ∃ X, U.take j = X := ⟨_, rfl⟩
  obtain ⟨uu, huu⟩ : ∃ uu, U.drop j = uu := ⟨_, rfl⟩
  have hXl : X.length = j := by rw [← hX, List.length_take]; omega
  have hul : nv + 1 ≤ uu.length := by rw [← huu, List.length_drop]; omega
  have huo : okB 4294967296 uu := by rw [← huu]; exact hUo.drop _
  have hUX : U = X ++ uu := by rw [← hX, ← huu, List.take_append_drop]
  have hdd : U.drop (j + nv + 1) = uu.drop (nv + 1) := by rw [← huu, List.drop_drop]; congr 1
  rw [hdd, hX, huu]
  rw [hUX] at hU
  have HV := Lib.hid hv; have HOF := Lib.hid hoff; have HLN := Lib.hid hn; have HUL := Lib.hid hul; have HUO := Lib.hid huo; have HXL := Lib.hid hXl; have HU := Lib.hid hU
  have hn1 : (nv : Int) ≤ 1000000000 := by omega
  have hqi : (q : Int) < 4294967296 := by omega
  have hgw : g < w.heap.size := (Array.getElem?_eq_some_iff.1 hU).1
  clear hv hoff hn hul huo hXl hU hj hcv hcmv hnv hX huu hUX hdd hUo hn9
  go_enter Tryz.func71, Tryz.ntmps71
  go_wp2_with fail
  go_loopw [15, 9, 10, 11, 7, 8] (fun i _ _ _ cv bv wr => ∃ (k c b : Nat) (S : List Nat), k ≤ nv ∧ i = .int .i64 (k : Int) ∧ cv = .int .u64 (c : Int) ∧ bv = .int .u64 (b : Int) ∧ (c : Int) < 4294967296 ∧ b ≤ 1 ∧ Hid (S.length = k) ∧ Hid (okB 4294967296 S) ∧
      Hid (valB 4294967296 S + q * valB 4294967296 (lv.take k) = valB 4294967296 (uu.take k) + 4294967296 ^ k * (c + b)) ∧
      Hid (wr.heap[g]? = some (.cells (cellsK .u32 (X ++ (S ++ uu.drop k))) 52 (0, 0))) ∧ Hid (Fr (fun b => b = g) w wr)) (fun i _ _ _ _ _ _ => nv - (intOf i).toNat)
  case atStart => exact ⟨0, 0, 0, [], by omega, rfl, rfl, rfl, by omega, by omega, Lib.hid rfl, Lib.hid (okB_nil _), Lib.hid (by simp [valB]), Lib.hid (by simpa using HU.out), Lib.hid (Fr.refl _ _)⟩
  case round =>
    obtain ⟨k, c, b, S, hk, rfl, rfl, rfl, hc, hb, HS, HO, HVL, HC, HF⟩ := hrel
    obtain ⟨wo, hwo⟩ : ∃ wo, wo = wr := ⟨_, rfl⟩
    subst hwo
    by_cases hlt : k < nv
    · have hlt' : (k : Int) < (nv : Int) := by omega
      have hkV : k < lv.length := by have := HLN.out; omega
      have hkU : k < uu.length := by have := HUL.out; omega
      obtain ⟨g1, off1, hp1, hg1, hne, hc1⟩ := HV.out.cell_off HOF.out hkV
      have cA : wo.cell? ⟨g1, off1 + k, none⟩ = some (.int .u32 (lv[k] : Int)) := by rw [HF.out.cell (p := ⟨g1, off1 + k, none⟩) hg1 hne]; exact hc1
      subst hp1
      obtain ⟨x, hx⟩ : ∃ x, lv[k] = x := ⟨_, rfl⟩
      have hxl : x < 4294967296 := by rw [← hx]; exact HV.out.ok.get hkV
      obtain ⟨y, hy⟩ : ∃ y, uu[k] = y := ⟨_, rfl⟩
      have hyl : y < 4294967296 := by rw [← hy]; exact HUO.out.get hkU
      rw [hx] at cA
      have hget := win_get HXL.out HS.out hkU
      rw [hy] at hget
      have cU : wo.cell? ⟨g, j + k, none⟩ = some (.int .u32 (y : Int)) := by rw [Lib.cell_of_heap HC.out]; exact cellsK_some hget
      have hfr : wo.frozen? ⟨g, j + k, none⟩ = false := Lib.frozen_of_heap HC.out _
      obtain ⟨t, ht⟩ : ∃ t, q * x = t := ⟨_, rfl⟩
      have htl : t ≤ 18446744065119617025 := by rw [← ht]; exact Nat.mul_le_mul (show q ≤ 4294967295 by omega) (show x ≤ 4294967295 by omega)
      have qt : (q : Int) * (x : Int) = (t : Int) := by rw [← ht]; simp
      obtain ⟨p, hp⟩ : ∃ p, t + c = p := ⟨_, rfl⟩
      have hp' : p = q * x + c := by rw [ht, hp]
      have qp : (t : Int) + (c : Int) = (p : Int) := by omega
      have hpl : p < 18446744073709551616 := by omega
      obtain ⟨lo, hlo⟩ : ∃ lo, p % 4294967296 = lo := ⟨_, rfl⟩
      obtain ⟨c', hc'⟩ : ∃ c', p / 4294967296 = c' := ⟨_, rfl⟩
      have hc'l : c' < 4294967296 := by omega
      obtain ⟨r, hr⟩ : ∃ r, (y + 8589934592 - lo - b) % 4294967296 = r := ⟨_, rfl⟩
      obtain ⟨b', hb'⟩ : ∃ b', (if y < lo + b then 1 else 0) = b' := ⟨_, rfl⟩
      have hb1 : b' ≤ 1 := by rw [← hb']; split <;> omega
      have he : y + 4294967296 * b' = r + p % 4294967296 + b := by rw [hlo, ← hb', ← hr]; split <;> omega
      have hst := take_step HS.out hkV hx hkU hy hp' HVL.out he
      rw [hc'] at hst
      have hrl : r < 4294967296 := by omega
      have q1 : (p : Int) / 4294967296 = (c' : Int) := by omega
      have q2 : bits .and .u64 (p : Int) 4294967295 = (lo : Int) := by
        have h := u64_and_nat p 4294967295 hpl (by decide)
        rw [show (p &&& 4294967295 : Nat) = lo by rw [← hlo]; exact Nat.and_two_pow_sub_one_eq_mod p 32] at h
        exact h
      have q3 : IntKind.u64.wrap (IntKind.u64.wrap ((y : Int) - (lo : Int)) - (b : Int)) / 9223372036854775808 = (b' : Int) := by rw [IntKind.wrap_u64, IntKind.wrap_u64, ← hb']; split <;> omega
      have q4 : IntKind.u64.wrap (IntKind.u64.wrap ((y : Int) - (lo : Int)) - (b : Int)) % 4294967296 = (r : Int) := by rw [IntKind.wrap_u64, IntKind.wrap_u64]; omega
      have htl' : (t : Int) ≤ 18446744065119617025 := by omega
      have HST := Lib.hid hst
      have HW := Lib.hid (win_set (x := r) HXL.out HS.out hkU)
      clear hst hx hy hget ht htl hp hp' hlo hc' hr hb' he hc1 hpl
      go_wp2_with fail
      go_roundw
      case rel => exact ⟨k + 1, c', b', S ++ [r], by omega, by go_num, rfl, rfl, by omega, hb1, Lib.hid (by simp [HS.out]), Lib.hid (okB_snoc HO.out hrl), Lib.hid HST.out, Lib.hid (by rw [← HW.out]; exact set_block HC.out), Lib.hid (HF.out.setCell (p := ⟨g, j + k, none⟩) (.inl rfl) _)⟩
      case measure => simp [intOf]; omega
    · have hge : (nv : Int) ≤ (k : Int) := by omega
      obtain rfl : k = nv := by omega
      have hkU : k < uu.length := by have := HUL.out; omega
      obtain ⟨y, hy⟩ : ∃ y, uu[k] = y := ⟨_, rfl⟩
      have hyl : y < 4294967296 := by rw [← hy]; exact HUO.out.get hkU
      have hget := win_get HXL.out HS.out hkU
      rw [hy] at hget
      have cU : wo.cell? ⟨g, j + k, none⟩ = some (.int .u32 (y : Int)) := by rw [Lib.cell_of_heap HC.out]; exact cellsK_some hget
      have hfr : wo.frozen? ⟨g, j + k, none⟩ = false := Lib.frozen_of_heap HC.out _
      obtain ⟨r, hr⟩ : ∃ r, (y + 8589934592 - c - b) % 4294967296 = r := ⟨_, rfl⟩
      have hrl : r < 4294967296 := by omega
      have HW := Lib.hid (win_set (x := r) HXL.out HS.out hkU)
      have hv2 := HVL.out
      rw [List.take_of_length_le (l := lv) (by have := HLN.out; omega)] at hv2
      have hq0 : IntKind.u64.wrap (IntKind.u64.wrap ((y : Int) - (c : Int)) - (b : Int)) % 4294967296 = (r : Int) := by rw [IntKind.wrap_u64, IntKind.wrap_u64]; omega
      have htk := valB_take_succ (B := 4294967296) hkU
      rw [hy] at htk
      by_cases hbb : y < c + b
      · have q3 : IntKind.u64.wrap (IntKind.u64.wrap ((y : Int) - (c : Int)) - (b : Int)) / 9223372036854775808 = 1 := by rw [IntKind.wrap_u64, IntKind.wrap_u64]; omega
        have he : y + 4294967296 = r + c + b := by omega
        have HE : Hid (valB 4294967296 (S ++ [r]) + q * valB 4294967296 lv = valB 4294967296 (uu.take (k + 1)) + 4294967296 ^ (k + 1) * 1) := Lib.hid (by
          rw [valB_snoc, HS.out, htk, Nat.pow_succ]
          have e := congrArg (4294967296 ^ k * ·) he
          simp only [Nat.mul_add] at e hv2
          omega)
        clear hr hy hget hv2 htk hbb he
        go_wp2_with fail
        go_ret
        exact ⟨1, S ++ [r], rfl, Nat.le_refl _, by simp [HS.out], okB_snoc HO.out hrl, HE.out, by rw [show uu.drop (k + 1) = uu.drop (k + 1) from rfl, ← HW.out]; exact set_block HC.out, HF.out.setCell (p := ⟨g, j + k, none⟩) (.inl rfl) _⟩
      · have q3 : IntKind.u64.wrap (IntKind.u64.wrap ((y : Int) - (c : Int)) - (b : Int)) / 9223372036854775808 = 0 := by rw [IntKind.wrap_u64, IntKind.wrap_u64]; omega
        have he : y = r + c + b := by omega
        have HE : Hid (valB 4294967296 (S ++ [r]) + q * valB 4294967296 lv = valB 4294967296 (uu.take (k + 1)) + 4294967296 ^ (k + 1) * 0) := Lib.hid (by
          rw [valB_snoc, HS.out, htk, Nat.mul_zero]
          have e := congrArg (4294967296 ^ k * ·) he
          simp only [Nat.mul_add] at e hv2
          omega)
        clear hr hy hget hv2 htk hbb he
        go_wp2_with fail
        go_ret
        exact ⟨0, S ++ [r], rfl, by omega, by simp [HS.out], okB_snoc HO.out hrl, HE.out, by rw [← HW.out]; exact set_block HC.out, HF.out.setCell (p := ⟨g, j + k, none⟩) (.inl rfl) _⟩
set_option maxHeartbeats 8000000 in
set_option maxRecDepth 100000 in
theorem give_any (g j n cap : Nat) (U : List Nat) (vv : Value) (lv : List Nat) (w : World) (hU : w.heap[g]? = some (.cells (cellsK .u32 U) 52 (0, 0))) (hUo : okB 4294967296 U) (hn : lv.length = n) (hj : j + n < U.length) (hn0 : 0 < n) (hn9 : n ≤ 1000000000) (hv : Lim w vv lv) (hoff : offB vv g) :
    Calls Tryz.prog 72 #[.slice (some ⟨g, j, none⟩) (n + 1) cap, vv] w fun e w' => ∃ (c : Nat) (R : List Nat), e = .returned (.tuple #[]) ∧ c ≤ 1 ∧ R.length = n + 1 ∧ okB 4294967296 R ∧
      valB 4294967296 R + 4294967296 ^ (n + 1) * c = valB 4294967296 ((U.drop j).take (n + 1)) + valB 4294967296 lv ∧
      w'.heap[g]? = some (.cells (cellsK .u32 (U.take j ++ (R ++ U.drop (j + n + 1)))) 52 (0, 0)) ∧ Fr (fun b => b = g) w w' := by
  obtain ⟨pv, nv, cv, rfl, hnv, hcv, hcmv⟩ := hv.open_
  obtain rfl : nv = n := by omega
  obtain ⟨X, hX⟩ : ∃ X, U.take j = X := ⟨_, rfl⟩
  obtain ⟨uu, huu⟩ : ∃ uu, U.drop j = uu := ⟨_, rfl⟩
  have hXl : X.length = j := by rw [← hX, List.length_take]; omega
  have hul : nv + 1 ≤ uu.length := by rw [← huu, List.length_drop]; omega
  have huo : okB 4294967296 uu := by rw [← huu]; exact hUo.drop _
  have hUX : U = X ++ uu := by rw [← hX, ← huu, List.take_append_drop]
  have hdd : U.drop (j + nv + 1) = uu.drop (nv + 1) := by rw [← huu, List.drop_drop]; congr 1
  rw [hdd, hX, huu]
  rw [hUX] at hU
  have HV := Lib.hid hv; have HOF := Lib.hid hoff; have HLN := Lib.hid hn; have HUL := Lib.hid hul; have HUO := Lib.hid huo; have HXL := Lib.hid hXl; have HU := Lib.hid hU
  have hn1 : (nv : Int) ≤ 1000000000 := by omega
  have hgw : g < w.heap.size := (Array.getElem?_eq_some_iff.1 hU).1
  clear hv hoff hn hul huo hXl hU hj hcv hcmv hnv hX huu hUX hdd hUo hn9
  go_enter Tryz.func72, Tryz.ntmps72
  go_wp2_with fail
  go_loopw [9, 5, 6, 4] (fun i _ _ cv wr => ∃ (k c : Nat) (S : List Nat), k ≤ nv ∧ i = .int .i64 (k : Int) ∧ cv = .int .u64 (c : Int) ∧ c ≤ 1 ∧ Hid (S.length = k) ∧ Hid (okB 4294967296 S) ∧
      Hid (valB 4294967296 S + 4294967296 ^ k * c = valB 4294967296 (uu.take k) + valB 4294967296 (lv.take k)) ∧
      Hid (wr.heap[g]? = some (.cells (cellsK .u32 (X ++ (S ++ uu.drop k))) 52 (0, 0))) ∧ Hid (Fr (fun b => b = g) w wr)) (fun i _ _ _ _ => nv - (intOf i).toNat)
  case atStart => exact ⟨0, 0, [], by omega, rfl, rfl, by omega, Lib.hid rfl, Lib.hid (okB_nil _), Lib.hid (by simp [valB]), Lib.hid (by simpa using HU.out), Lib.hid (Fr.refl _ _)⟩
  case round =>
    obtain ⟨k, c, S, hk, rfl, rfl, hc, HS, HO, HVL, HC, HF⟩ := hrel
    obtain ⟨wo, hwo⟩ : ∃ wo, wo = wr := ⟨_, rfl⟩
    subst hwo
    by_cases hlt : k < nv
    · have hlt' : (k : Int) < (nv : Int) := by omega
      have hkV : k < lv.length := by have := HLN.out; omega
      have hkU : k < uu.length := by have := HUL.out; omega
      obtain ⟨g1, off1, hp1, hg1, hne, hc1⟩ := HV.out.cell_off HOF.out hkV
      have cA : wo.cell? ⟨g1, off1 + k, none⟩ = some (.int .u32 (lv[k] : Int)) := by rw [HF.out.cell (p := ⟨g1, off1 + k, none⟩) hg1 hne]; exact hc1
      subst hp1
      obtain ⟨x, hx⟩ : ∃ x, lv[k] = x := ⟨_, rfl⟩
      have hxl : x < 4294967296 := by rw [← hx]; exact HV.out.ok.get hkV
      obtain ⟨y, hy⟩ : ∃ y, uu[k] = y := ⟨_, rfl⟩
      have hyl : y < 4294967296 := by rw [← hy]; exact HUO.out.get hkU
      rw [hx] at cA
      have hget := win_get HXL.out HS.out hkU
      rw [hy] at hget
      have cU : wo.cell? ⟨g, j + k, none⟩ = some (.int .u32 (y : Int)) := by rw [Lib.cell_of_heap HC.out]; exact cellsK_some hget
      have hst := give_step HS.out hkV hx hkU hy HVL.out
      obtain ⟨s, hs⟩ : ∃ s, y + x + c = s := ⟨_, rfl⟩
      rw [hs] at hst
      obtain ⟨r, hr⟩ : ∃ r, s % 4294967296 = r := ⟨_, rfl⟩
      obtain ⟨c', hc'⟩ : ∃ c', s / 4294967296 = c' := ⟨_, rfl⟩
      rw [hr, hc'] at hst
      have hrl : r < 4294967296 := by omega
      have hcl : c' ≤ 1 := by omega
      have w1 : IntKind.u64.wrap (y : Int) = (y : Int) := by rw [IntKind.wrap_u64]; omega
      have w2 : IntKind.u64.wrap (x : Int) = (x : Int) := by rw [IntKind.wrap_u64]; omega
      have w3 : IntKind.u64.wrap ((y : Int) + (x : Int)) = (y : Int) + (x : Int) := by rw [IntKind.wrap_u64]; omega
      have w4 : IntKind.u64.wrap ((y : Int) + (x : Int) + (c : Int)) = (s : Int) := by rw [IntKind.wrap_u64]; omega
      have q1 : (s : Int) % 4294967296 = (r : Int) := by omega
      have q2 : (s : Int) / 4294967296 = (c' : Int) := by omega
      have HST := Lib.hid hst
      have HW := Lib.hid (win_set (x := r) HXL.out HS.out hkU)
      have HY := Lib.hid hxl; have HY2 := Lib.hid hyl
      clear hst hx hy hget hs hr hc' hc1 hxl hyl
      go_wp2_with fail
      go_quiet (fail)
      clear w1 w2 w3 w4
      have hfr : (wo.drewN nq).frozen? ⟨g, j + k, none⟩ = false := Lib.frozen_of_heap (show (wo.drewN nq).heap[g]? = _ from HC.out) _
      have cU2 : (wo.drewN nq).cell? ⟨g, j + k, none⟩ = some (.int .u32 _) := cU
      go_wp2_with fail
      go_roundw
      case rel => exact ⟨k + 1, c', S ++ [r], by omega, by go_num, rfl, hcl, Lib.hid (by simp [HS.out]), Lib.hid (okB_snoc HO.out hrl), Lib.hid HST.out, Lib.hid (by rw [← HW.out]; exact set_block (W := wo.drewN nq) HC.out), Lib.hid ((fr_drewN HF.out nq).setCell (p := ⟨g, j + k, none⟩) (.inl rfl) _)⟩
      case measure => simp [intOf]; omega
    · have hge : (nv : Int) ≤ (k : Int) := by omega
      obtain rfl : k = nv := by omega
      have hkU : k < uu.length := by have := HUL.out; omega
      obtain ⟨y, hy⟩ : ∃ y, uu[k] = y := ⟨_, rfl⟩
      have hyl : y < 4294967296 := by rw [← hy]; exact HUO.out.get hkU
      have hget := win_get HXL.out HS.out hkU
      rw [hy] at hget
      have cU : wo.cell? ⟨g, j + k, none⟩ = some (.int .u32 (y : Int)) := by rw [Lib.cell_of_heap HC.out]; exact cellsK_some hget
      have hfr : wo.frozen? ⟨g, j + k, none⟩ = false := Lib.frozen_of_heap HC.out _
      obtain ⟨r, hr⟩ : ∃ r, (y + c) % 4294967296 = r := ⟨_, rfl⟩
      obtain ⟨c', hc'⟩ : ∃ c', (y + c) / 4294967296 = c' := ⟨_, rfl⟩
      have hrl : r < 4294967296 := by omega
      have hcl : c' ≤ 1 := by omega
      have HW := Lib.hid (win_set (x := r) HXL.out HS.out hkU)
      have hv2 := HVL.out
      rw [List.take_of_length_le (l := lv) (by have := HLN.out; omega)] at hv2
      have htk := valB_take_succ (B := 4294967296) hkU
      rw [hy] at htk
      have q1 : ((y : Int) + (c : Int)) % 4294967296 = (r : Int) := by omega
      have q2 : (c : Int) % 4294967296 = (c : Int) := by omega
      have HE : Hid (valB 4294967296 (S ++ [r]) + 4294967296 ^ (k + 1) * c' = valB 4294967296 (uu.take (k + 1)) + valB 4294967296 lv) := Lib.hid (by
        have e := carry_step (B := 4294967296) (S := S) (y + c)
        rw [HS.out, hr, hc'] at e
        rw [e, htk, Nat.mul_add]
        omega)
      clear hr hc' hy hget hv2 htk hyl
      go_wp2_with fail
      go_end0
      exact ⟨c', S ++ [r], rfl, hcl, by simp [HS.out], okB_snoc HO.out hrl, HE.out, by rw [← HW.out]; exact set_block HC.out, HF.out.setCell (p := ⟨g, j + k, none⟩) (.inl rfl) _⟩
end Go.Proofs.YtakbkbmjeanboaaGreatDoor
