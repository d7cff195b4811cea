/- Cmp of the reference implementation. Each theorem names its conditions. -/
import Derived.Test.YtakbkbmjeanboaaGreatDoorRefS
namespace Go.Proofs.YtakbkbmjeanboaaGreatDoor
open Go.RowKit Go.Shelf
open Dgt
set_option linter.unusedVariables false

def valR (l : List UInt8) : Nat := valB 256 (l.map UInt8.toNat).reverse
theorem valR_cons (x : UInt8) (l : List UInt8) : valR (x :: l) = valR l + 256 ^ l.length * x.toNat := by
  unfold valR; rw [List.map_cons, List.reverse_cons, valB_snoc]; simp
theorem valR_lt (l : List UInt8) : valR l < 256 ^ l.length := by
  have : okB 256 (l.map UInt8.toNat).reverse := fun x hx => by
    obtain ⟨y, _, rfl⟩ := List.mem_map.1 (List.mem_reverse.1 hx)
    exact y.toNat_lt
  simpa [valR] using valB_lt this
theorem bytesLess_val : ∀ (a b : List UInt8), a.length = b.length → Op.bytesLess a b = decide (valR a < valR b)
  | [], [], _ => by simp [Op.bytesLess]
  | [], _ :: _, h => by simp at h
  | _ :: _, [], h => by simp at h
  | x :: a, y :: b, h => by
    have hl : a.length = b.length := by simpa using h
    rw [Op.bytesLess, bytesLess_val a b hl, valR_cons, valR_cons]
    have h1 := valR_lt a
    have h2 := valR_lt b
    rw [hl] at h1 ⊢
    obtain ⟨P, hP⟩ : ∃ P, 256 ^ b.length = P := ⟨_, rfl⟩
    rw [hP] at h1 h2 ⊢
    rcases Nat.lt_trichotomy x.toNat y.toNat with hxy | hxy | hxy
    · have hx : x < y := hxy
      have hm : P * (x.toNat + 1) ≤ P * y.toNat := Nat.mul_le_mul_left _ hxy
      rw [Nat.mul_add, Nat.mul_one] at hm
      have : valR a + P * x.toNat < valR b + P * y.toNat := by omega
      simp [hx, this]
    · have hx : x = y := UInt8.toNat_inj.1 hxy
      subst hx
      have hn : ¬ x < x := by simp
      simp [hn]
    · have hx : ¬ x < y := fun hh => by have : x.toNat < y.toNat := hh; omega
      have hne : (x == y) = false := by
        rw [beq_eq_false_iff_ne]; rintro rfl; omega
      have hm : P * (y.toNat + 1) ≤ P * x.toNat := Nat.mul_le_mul_left _ hxy
      rw [Nat.mul_add, Nat.mul_one] at hm
      have : ¬ valR a + P * x.toNat < valR b + P * y.toNat := by omega
      simp [hx, hne, this]
theorem toList_enc (m : Nat) : (encS m).toList = encL m := by rw [ByteArray.toList_eq]; rfl
theorem valR_encL (m : Nat) : valR (encL m) = m := numS_encS m
theorem less_enc {m n : Nat} (h : (encS m).size = (encS n).size) : Op.bytesLess (encS m).toList (encS n).toList = decide (m < n) := by
  rw [toList_enc, toList_enc, bytesLess_val _ _ h, valR_encL, valR_encL]
theorem beq_enc (m n : Nat) : ((encS m).toList == (encS n).toList) = decide (m = n) := by
  rw [Bool.eq_iff_iff, beq_iff_eq, decide_eq_true_eq, toList_enc, toList_enc]
  constructor
  · intro h
    rw [← valR_encL m, h, valR_encL]
  · rintro rfl; rfl
theorem size_lt_enc {m n : Nat} (h : (encS m).size < (encS n).size) : m < n := by
  rw [encS_size, encS_size] at h; exact digs_len_lt (by decide) h
set_option maxHeartbeats 1000000 in
theorem rCmp_any (a b : ByteArray) (w : World) (ha : a.size ≤ 100000000) (hb : b.size ≤ 100000000) :
    Calls Tryz.prog 41 #[.string a, .string b] w fun e w' => e = .returned (.int .i64 (cmpI (numS a) (numS b))) ∧ w = w' := by
  have HC := Lib.hid (Canon_any a · ha)
  have HD := Lib.hid (Canon_any b · hb)
  obtain ⟨m, hm⟩ : ∃ m, numS a = m := ⟨_, rfl⟩
  obtain ⟨n, hn⟩ : ∃ n, numS b = n := ⟨_, rfl⟩
  rw [hm] at HC ⊢
  rw [hn] at HD ⊢
  have h1 : (encS m).size < (encS n).size → m < n := size_lt_enc
  have h2 : (encS n).size < (encS m).size → n < m := size_lt_enc
  have h3 : (encS m).size = (encS n).size → _ := less_enc (m := m) (n := n)
  have h4 := beq_enc m n
  obtain ⟨c, hc⟩ : ∃ c, encS m = c := ⟨_, rfl⟩
  obtain ⟨d, hd⟩ : ∃ d, encS n = d := ⟨_, rfl⟩
  rw [hc] at HC h1 h2 h3 h4
  rw [hd] at HD h1 h2 h3 h4
  clear hc hd
  by_cases hs : c.size = d.size
  · have h3 := h3 hs
    have e1 : ((c.size : Int) == (d.size : Int)) = true := by rw [hs]; simp
    have e2 : (c.size : Int) = (d.size : Int) := by rw [hs]
    rcases Nat.lt_trichotomy m n with hlt | rfl | hgt
    · have f1 : Op.bytesLess c.toList d.toList = true := by rw [h3]; simpa using hlt
      have HE := Lib.hid (cmpI_lt hlt)
      clear h1 h2 h3 h4 hs hlt
      go_enter Tryz.func41, Tryz.ntmps41
      go_wp2_with fail
      refine (HC.out _).mono ?_
      rintro e w1 ⟨rfl, rfl⟩
      go_wp2_with fail
      refine (HD.out _).mono ?_
      rintro e w1 ⟨rfl, rfl⟩
      go_wp2_with fail
      go_ret
      exact ⟨by rw [HE.out]; rfl, rfl⟩
    · have f1 : Op.bytesLess c.toList d.toList = false := by rw [h3]; simp
      have f2 : (c.toList == d.toList) = true := by rw [h4]; simp
      have HE := Lib.hid (cmpI_eq (m := m))
      clear h1 h2 h3 h4 hs
      go_enter Tryz.func41, Tryz.ntmps41
      go_wp2_with fail
      refine (HC.out _).mono ?_
      rintro e w1 ⟨rfl, rfl⟩
      go_wp2_with fail
      refine (HD.out _).mono ?_
      rintro e w1 ⟨rfl, rfl⟩
      go_wp2_with fail
      go_ret
      exact ⟨by rw [HE.out]; rfl, rfl⟩
    · have f1 : Op.bytesLess c.toList d.toList = false := by rw [h3]; simp; omega
      have f2 : (c.toList == d.toList) = false := by rw [h4]; simp; omega
      have HE := Lib.hid (cmpI_gt hgt)
      clear h1 h2 h3 h4 hs hgt
      go_enter Tryz.func41, Tryz.ntmps41
      go_wp2_with fail
      refine (HC.out _).mono ?_
      rintro e w1 ⟨rfl, rfl⟩
      go_wp2_with fail
      refine (HD.out _).mono ?_
      rintro e w1 ⟨rfl, rfl⟩
      go_wp2_with fail
      go_ret
      exact ⟨by rw [HE.out]; rfl, rfl⟩
  · have e1 : ((c.size : Int) == (d.size : Int)) = false := by rw [beq_eq_false_iff_ne]; omega
    have e2 : ¬ (c.size : Int) = (d.size : Int) := by omega
    by_cases hlt : c.size < d.size
    · have HE := Lib.hid (cmpI_lt (h1 hlt))
      have f1 : (c.size : Int) < (d.size : Int) := by omega
      clear h1 h2 h3 h4 hs hlt
      go_enter Tryz.func41, Tryz.ntmps41
      go_wp2_with fail
      refine (HC.out _).mono ?_
      rintro e w1 ⟨rfl, rfl⟩
      go_wp2_with fail
      refine (HD.out _).mono ?_
      rintro e w1 ⟨rfl, rfl⟩
      go_wp2_with fail
      go_ret
      exact ⟨by rw [HE.out]; rfl, rfl⟩
    · have HE := Lib.hid (cmpI_gt (h2 (by omega)))
      have f1 : ¬ (c.size : Int) < (d.size : Int) := by omega
      clear h1 h2 h3 h4 hs hlt
      go_enter Tryz.func41, Tryz.ntmps41
      go_wp2_with fail
      refine (HC.out _).mono ?_
      rintro e w1 ⟨rfl, rfl⟩
      go_wp2_with fail
      refine (HD.out _).mono ?_
      rintro e w1 ⟨rfl, rfl⟩
      go_wp2_with fail
      go_ret
      exact ⟨by rw [HE.out]; rfl, rfl⟩
