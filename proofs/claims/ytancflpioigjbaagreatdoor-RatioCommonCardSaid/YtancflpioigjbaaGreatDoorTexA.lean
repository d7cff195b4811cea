/- Text of package nat. Each theorem names its conditions. -/
import Derived.Test.YtancflpioigjbaaGreatDoorApiE
import Derived.Test.YtancflpioigjbaaGreatDoorDec
import Derived.Lib.AppendIntMem
namespace Go.Proofs.YtancflpioigjbaaGreatDoor
open Go.RowKit Go.Shelf
open Dgt
set_option linter.unusedVariables false

theorem str_append (a b : List UInt8) : (⟨a.toArray⟩ : ByteArray) ++ ⟨b.toArray⟩ = ⟨(a ++ b).toArray⟩ := by
  apply ByteArray.ext
  simp
def strLen : Value → Nat
  | .string s => s.size
  | _ => 0
theorem nDigits_lt {k : Nat} : ∀ {u : Nat}, u < 10 ^ (k + 1) → Lib.nDigits u ≤ k + 1 := by
  induction k with
  | zero => intro u hu; rw [Lib.nDigits_small (by simpa using hu)]; exact Nat.le_refl _
  | succ k ih =>
    intro u hu
    by_cases hs : u < 10
    · rw [Lib.nDigits_small hs]; omega
    · rw [Lib.nDigits_big hs]
      have := ih (u := u / 10) (by rw [Nat.pow_succ] at hu; omega)
      omega
theorem dec_size (a : ByteArray) : (Lib.decDigits (numS a)).length ≤ 3 * a.size + 1 := by
  rw [Lib.decDigits_length]
  refine nDigits_lt ?_
  have h := numS_lt a
  have h2 : (256 : Nat) ^ a.size ≤ 10 ^ (3 * a.size) := by
    rw [Nat.pow_mul]; exact Nat.pow_le_pow_left (by decide) _
  have h3 : (10 : Nat) ^ (3 * a.size) ≤ 10 ^ (3 * a.size + 1) := Nat.pow_le_pow_right (by decide) (by omega)
  omega
theorem repeat_zeros (c : Nat) : (⟨(Lib.repeatL (⟨#[48]⟩ : ByteArray).data.toList c).toArray⟩ : ByteArray) = ⟨(List.replicate c 48).toArray⟩ := by
  congr 2
  induction c with
  | zero => rfl
  | succ c ih => rw [Lib.repeatL, List.replicate_succ, ih]; rfl
set_option maxHeartbeats 1000000 in
set_option maxRecDepth 100000 in
theorem Text_any (a : ByteArray) (w : World) (ha : a.size ≤ 100000000) (htab : Lib.TabIs Tryz.prog w "internal/strconv.uint64pow10" .u64 Lib.pow10Tab) :
    Calls Tryz.prog 56 #[.string a] w fun e w' => e = .returned (.string ⟨(Lib.decDigits (numS a)).toArray⟩) ∧ Below w.heap.size w w' := by
  have OA := Lib.hid (of_any a · (by omega))
  have HT := Lib.hid (Lib.tabBelow_of_tabIs htab)
  have hL := dec_size a
  have LA : Hid ((digs 4294967296 (numS a)).length ≤ 1000000000) := Lib.hid (Nat.le_trans (len32 a) (by omega))
  obtain ⟨N, hN⟩ : ∃ N, numS a = N := ⟨_, rfl⟩
  rw [hN] at OA LA hL ⊢
  obtain ⟨L, hLL⟩ : ∃ L, (Lib.decDigits N).length = L := ⟨_, rfl⟩
  have HL9 : Hid (L ≤ 300000001) := Lib.hid (by omega)
  have HLL := Lib.hid hLL
  clear hN hL hLL ha htab
  go_enter Tryz.func56, Tryz.ntmps56
  go_wp2_with fail
  refine (OA.out _).mono ?_
  rintro e w1 ⟨v1, rfl, hl, hb⟩
  have H1 := Lib.hid hl; have HB := Lib.hid hb
  clear hl hb
  go_wp2_with fail
  go_loopw [3, 4] (fun v s wr => ∃ (n : Nat) (o : List UInt8), s = .string ⟨o.toArray⟩ ∧ Hid (Lim wr v (digs 4294967296 n)) ∧ Hid (Lib.decDigits N = Lib.decDigits n ++ o) ∧ Hid ((digs 4294967296 n).length ≤ 1000000000) ∧ Hid (Below w.heap.size w wr)) (fun _ s _ => L - strLen s)
  case atStart => exact ⟨N, [], rfl, H1, Lib.hid (by simp), LA, HB⟩
  case round =>
    obtain ⟨n, o, rfl, HV, HD, HLN, HBW⟩ := hrel
    go_wp2_with fail
    refine (short_any _ _ 1000000000 _ HV.out HLN.out (by decide) (by decide)).mono ?_
    rintro e w2 ⟨v2, rfl, hl, hb⟩
    rw [valB_digs (by decide)] at hl ⊢
    have H2 := Lib.hid hl; have HB2 := Lib.hid (HBW.out.trans (hb.mono HBW.out.size))
    obtain ⟨r, hr⟩ : ∃ r, n % 1000000000 = r := ⟨_, rfl⟩
    have hr9 : (r : Int) < 1000000000 := by omega
    rw [hr]
    have HR := Lib.hid hr
    clear hl hb hr
    go_wp2_with fail
    refine (Tryz.strconv_Itoa (r : Int) (by omega) (by omega) _ (HT.out.on HB2.out).here).mono ?_
    rintro e w3 ⟨rfl, k, os, rfl⟩
    rw [Lib.itoa_nonneg]
    have HB3 := Lib.hid (HB2.out.trans (Lib.below_grow w.heap.size w2 HB2.out.size k os))
    have H3 := Lib.hid (H2.out.up (Lib.below_grow w2.heap.size w2 (Nat.le_refl _) k os))
    obtain ⟨W3, hW3⟩ : ∃ W3, Sort.grow (w2.drewN k) os = W3 := ⟨_, rfl⟩
    rw [hW3] at HB3 H3 ⊢
    clear hW3
    have hnd : Lib.nDigits r ≤ 9 := nDigits_le9 (by omega)
    have hnl : ((Lib.decDigits r).length : Int) = (Lib.nDigits r : Int) := by rw [Lib.decDigits_length]
    obtain ⟨pv, nv, cv, rfl, hnv, -⟩ := H3.out.open_
    obtain ⟨d, hd⟩ : ∃ d, Lib.decDigits r = d := ⟨_, rfl⟩
    rw [hd] at hnl ⊢
    have hol : o.length ≤ 300000001 := by
      have h1 := congrArg List.length HD.out
      rw [List.length_append, HLL.out] at h1
      have := HL9.out; omega
    have hdl : (d.length : Int) ≤ 9 := by omega
    have hol' : (o.length : Int) ≤ 300000001 := by omega
    clear hol
    have HDD := Lib.hid hd
    by_cases hq : n / 1000000000 = 0
    · have hrn : r = n := by have := HR.out; omega
      have HE : Hid (Lib.decDigits N = d ++ o) := Lib.hid (by rw [HD.out, ← hrn, HDD.out])
      rw [hq, digs_zero] at hnv
      obtain rfl : nv = 0 := hnv
      clear hd hnl
      go_wp2_with fail
      go_ret
      exact ⟨by rw [HE.out, ← str_append]; rfl, HB3.out⟩
    · have hq' : 0 < n / 1000000000 := by omega
      have hdr := dec_round hq'
      rw [HR.out, HDD.out] at hdr
      have hnv0 : ¬ (nv : Int) = 0 := by
        intro h0
        have : (digs 4294967296 (n / 1000000000)).length = 0 := by omega
        rw [List.length_eq_zero_iff, digs_eq_nil (by decide)] at this
        omega
      have HDR := Lib.hid hdr
      obtain ⟨c, hc⟩ : ∃ c : Nat, 9 - Lib.nDigits r = c := ⟨_, rfl⟩
      have hc9 : (9 : Int) - (d.length : Int) = (c : Int) := by omega
      have HC := Lib.hid hc
      clear hd hnl hdr hc hq hq' hnv hnd
      have hnvb : ((nv : Int) == 0) = false := by simpa using hnv0
      clear hnv0
      go_wp2_with fail
      refine (Tryz.strings_Repeat ⟨#[48]⟩ c _ (by omega) (by show 1 * c ≤ _; omega)).mono ?_
      rintro e w4 ⟨rfl, hb4⟩
      rw [repeat_zeros c]
      have hlr : ((List.replicate c (48 : UInt8)).length : Int) = (c : Int) := by simp
      have hc9' : (c : Int) ≤ 9 := by omega
      have HB4 := Lib.hid (HB3.out.trans (hb4.mono HB3.out.size))
      have H4 := Lib.hid (H3.out.up hb4)
      have HO : Hid (Lib.decDigits N = Lib.decDigits (n / 1000000000) ++ ((List.replicate c 48 ++ d) ++ o)) := Lib.hid (by rw [HD.out, HDR.out, HC.out]; simp)
      obtain ⟨z, hz⟩ : ∃ z, List.replicate c (48 : UInt8) = z := ⟨_, rfl⟩
      rw [hz] at hlr HO ⊢
      have HZ := Lib.hid hz
      clear hb4 hz hc9
      go_wp2_with fail
      go_roundw
      case rel => exact ⟨n / 1000000000, (z ++ d) ++ o, by rw [← str_append, ← str_append], H4, HO, Lib.hid (Nat.le_trans (digs_len_mono (by decide) (Nat.div_le_self _ _)) HLN.out), HB4⟩
      case measure =>
        have h1 := congrArg List.length HO.out
        rw [List.length_append, HLL.out] at h1
        have h2 : 0 < (Lib.decDigits (n / 1000000000)).length := by rw [Lib.decDigits_length]; exact Lib.nDigits_pos _
        have h3 : 0 < d.length := by rw [← HDD.out, Lib.decDigits_length]; exact Lib.nDigits_pos _
        rw [List.length_append, List.length_append] at h1
        have e1 : ∀ l : List UInt8, strLen (.string ⟨l.toArray⟩) = l.length := fun l => rfl
        simp only [str_append, e1, List.length_append]
        omega
end Go.Proofs.YtancflpioigjbaaGreatDoor
