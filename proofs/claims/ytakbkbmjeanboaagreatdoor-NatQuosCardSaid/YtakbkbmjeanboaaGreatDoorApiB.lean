/- The functions of package nat on strings: Gcd, Right, Bits. Each theorem names its conditions. -/
import Derived.Test.YtakbkbmjeanboaaGreatDoorApiA
import Derived.Deep.LoopGhost
namespace Go.Proofs.YtakbkbmjeanboaaGreatDoor
open Go.RowKit Go.Shelf
open Dgt
set_option linter.unusedVariables false

set_option maxHeartbeats 2000000 in
set_option maxRecDepth 100000 in
theorem Gcd_any (a b : ByteArray) (w : World) (ha : a.size ≤ 100000000) (hb : b.size ≤ 100000000) :
    Calls Tryz.prog 21 #[.string a, .string b] w fun e w' => e = .returned (.string (encS (Nat.gcd (numS a) (numS b)))) ∧ Below w.heap.size w w' := by
  have la := len32 a; have lb := len32 b
  obtain ⟨m0, hm⟩ : ∃ m, numS a = m := ⟨_, rfl⟩
  obtain ⟨n0, hn⟩ : ∃ n, numS b = n := ⟨_, rfl⟩
  have OA := Lib.hid (of_any a · (by omega)); have OB := Lib.hid (of_any b · (by omega))
  rw [hm] at la OA; rw [hn] at lb OB
  rw [hm, hn]
  have LA := Lib.hid (show (digs 4294967296 m0).length ≤ 100000000 by omega); have LB := Lib.hid (show (digs 4294967296 n0).length ≤ 100000000 by omega)
  clear la lb ha hb hm hn
  go_enter Tryz.func21, Tryz.ntmps21
  go_wp2_with fail
  refine (OA.out _).mono ?_
  rintro e w1 ⟨v1, rfl, hl, hb⟩
  have H1 := Lib.hid hl; have HB := Lib.hid hb
  clear hl hb
  go_wp2_with fail
  refine (OB.out _).mono ?_
  rintro e w2 ⟨v2, rfl, hl, hb⟩
  have H1 := Lib.hid (H1.out.up hb); have H2 := Lib.hid hl; have HB := Lib.hid (HB.out.trans (hb.mono HB.out.size))
  clear hl hb
  go_wp2_with fail
  clear OA OB
  go_loopg [5, 6, 7, 8] n0 (fun n vx vy _ _ wr => ∃ m : Nat, Hid (Lim wr vx (digs 4294967296 m)) ∧ Hid (Lim wr vy (digs 4294967296 n)) ∧ Hid (Nat.gcd m n = Nat.gcd m0 n0) ∧ Hid ((digs 4294967296 m).length ≤ 100000000) ∧ Hid ((digs 4294967296 n).length ≤ 100000000) ∧ Hid (Below w.heap.size w wr))
  case atStart => exact ⟨m0, H1, H2, Lib.hid rfl, LA, LB, HB⟩
  case round =>
    clear H1 H2 HB LA LB
    obtain ⟨m, HX, HY, HG, LA, LB, HB⟩ := hrel
    obtain ⟨wo, hwo⟩ : ∃ wo, wo = wr := ⟨_, rfl⟩
    subst hwo
    obtain ⟨p, k, cp, hpk, hk, -, -⟩ := HY.out.open_
    subst hpk
    by_cases h0 : gk = 0
    · have hk0 : k = 0 := by rw [hk, h0, digs_zero]; rfl
      subst hk0
      have HE := Lib.hid (show Nat.gcd m0 n0 = m by rw [← HG.out, h0, Nat.gcd_zero_right])
      clear hk h0
      go_wp2_with fail
      refine (number_any _ _ _ HX.out (by have := LA.out; omega)).mono ?_
      rintro e w4 ⟨rfl, hb⟩
      rw [valB_digs (by decide)]
      have HB := Lib.hid (HB.out.trans (hb.mono HB.out.size))
      clear hb
      go_wp2_with fail
      go_ret
      exact ⟨by rw [HE.out]; rfl, HB.out⟩
    · have hk0 : 0 < (k : Int) := by
        have : (digs 4294967296 gk).length ≠ 0 := fun e => h0 ((digs_eq_nil (by decide)).1 (List.eq_nil_of_length_eq_zero e))
        omega
      have HN := Lib.hid (show 0 < gk by omega)
      clear hk h0
      go_wp2_with fail
      refine (divide_any _ _ m gk _ HX.out HY.out HN.out (by have := LA.out; omega)).mono ?_
      rintro e w3 ⟨vq, vr, rfl, hq, hr, hb⟩
      have HY := Lib.hid (HY.out.up hb); have HR := Lib.hid hr; have HB := Lib.hid (HB.out.trans (hb.mono HB.out.size))
      clear hq hr hb
      go_wp2_with fail
      go_roundg (m % gk)
      case rel => exact ⟨gk, HY, HR, Lib.hid (by rw [← HG.out, Nat.gcd_comm gk, ← Nat.gcd_rec, Nat.gcd_comm]), LB, Lib.hid (Nat.le_trans (digs_len_mono (by decide) (Nat.mod_le m gk)) LA.out), HB⟩
      case measure => exact Nat.mod_lt _ HN.out
/-- no zero in front -/
def rightN (a : ByteArray) : Bool := decide (encS (numS a) = a)
theorem rightN_nil : rightN ⟨#[]⟩ = true := by
  unfold rightN
  rw [show numS ⟨#[]⟩ = 0 from rfl, encS_zero]; rfl
theorem rightN_cons {a : ByteArray} (h : 0 < a.size) : rightN a = !decide (a[0].toNat = 0) := by
  have hl : (revB a).length = a.size := revB_len a
  have hne : revB a ≠ [] := by intro e; rw [e] at hl; simp at hl; omega
  have hlast : (revB a).getLast hne = a[0].toNat := by
    rw [List.getLast_eq_getElem]
    have := revB_get a (k := a.size - 1) (by omega)
    simp only [hl]
    rw [this]
    congr 2; omega
  have key : encS (numS a) = a ↔ nzL (revB a) := by
    constructor
    · intro h
      have := revB_encS (numS a)
      rw [h] at this
      rw [this]; exact nzL_digs (by decide) _
    · intro hz
      apply ext_revB
      rw [revB_encS]
      exact digs_valB (by decide) (revB_ok a) hz
  unfold rightN
  by_cases h0 : a[0].toNat = 0
  · have : ¬ nzL (revB a) := fun hz => hz hne (hlast.trans h0)
    simp [key, this, h0]
  · have : nzL (revB a) := fun _ => by rw [hlast]; exact h0
    simp [key, this, h0]
set_option maxHeartbeats 1000000 in
theorem Right_any (a : ByteArray) (w : World) (ha : a.size ≤ 100000000) :
    Calls Tryz.prog 36 #[.string a] w fun e w' => e = .returned (.bool (rightN a)) ∧ w = w' := by
  by_cases h0 : a.size = 0
  · have e : a = ⟨#[]⟩ := by
      have : a.data = #[] := Array.eq_empty_of_size_eq_zero h0
      cases a; simp only at this; rw [this]
    subst e
    have HR := Lib.hid rightN_nil
    clear h0 ha
    go_enter Tryz.func36, Tryz.ntmps36
    go_wp2_with fail
    go_ret
    exact ⟨by rw [HR.out]; rfl, rfl⟩
  · have hp : 0 < a.size := by omega
    have HR := Lib.hid (rightN_cons hp)
    obtain ⟨x, hx⟩ : ∃ x, a[0].toNat = x := ⟨_, rfl⟩
    rw [hx] at HR
    have hl : a.data.toList ≠ [] := fun e => h0 (by
      have : a.data.toList.length = 0 := by rw [e]; rfl
      simpa using this)
    rw [← ByteArray.toList_eq] at hl
    have hl2 : a.toList.isEmpty = false := by simpa using hl
    by_cases hx0 : x = 0
    · subst hx0
      have hx' : a[0].toNat = 0 := hx
      clear hx h0
      go_enter Tryz.func36, Tryz.ntmps36
      go_wp2_with fail
      go_ret
      exact ⟨by rw [HR.out]; rfl, rfl⟩
    · have hx1 : ¬ (x : Int) = 0 := by omega
      have hx2 : ((x : Int) != 0) = true := by simpa using hx1
      have HR2 : Hid (rightN a = true) := Lib.hid (by rw [HR.out]; simp [hx0])
      clear h0 hx0
      go_enter Tryz.func36, Tryz.ntmps36
      go_wp2_with fail
      go_ret
      exact ⟨by rw [HR2.out]; rfl, rfl⟩
end Go.Proofs.YtakbkbmjeanboaaGreatDoor
