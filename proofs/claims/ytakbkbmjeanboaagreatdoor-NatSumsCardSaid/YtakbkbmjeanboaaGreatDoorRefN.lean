/- Canon, Right of the reference implementation. Each theorem names its conditions. -/
import Derived.Test.YtakbkbmjeanboaaGreatDoorApiD
import Derived.Lib.IndexBytes
namespace Go.Proofs.YtakbkbmjeanboaaGreatDoor
open Go.RowKit Go.Shelf
open Dgt
set_option linter.unusedVariables false

theorem revB_extract (a : ByteArray) (k : Nat) : revB (a.extract k a.size) = ((a.data.toList.drop k).map UInt8.toNat).reverse := by
  unfold revB; rw [Lib.extract_to_end]
theorem numS_step (a : ByteArray) {k : Nat} (h : k < a.size) (h0 : a[k].toNat = 0) : numS (a.extract (k + 1) a.size) = numS (a.extract k a.size) := by
  unfold numS
  have hk : k < a.data.toList.length := by simpa using h
  rw [revB_extract, revB_extract, List.drop_eq_getElem_cons hk, List.map_cons, List.reverse_cons, valB_snoc]
  have : (a.data.toList[k]).toNat = 0 := h0
  rw [this, Nat.mul_zero]; rfl
theorem extract_zero (a : ByteArray) : a.extract 0 a.size = a := by
  apply ext_revB
  rw [revB_extract, List.drop_zero]; rfl
theorem extract_size (a : ByteArray) (k : Nat) (h : k ≤ a.size) : (a.extract k a.size).size = a.size - k := by
  rw [← revB_len, revB_extract]; simp
theorem canon_end (a : ByteArray) {k : Nat} (hk : k ≤ a.size) (h : ∀ h' : k < a.size, a[k].toNat ≠ 0) : encS (numS (a.extract k a.size)) = a.extract k a.size := by
  have hr : rightN (a.extract k a.size) = true := by
    by_cases hlt : k < a.size
    · have hp : 0 < (a.extract k a.size).size := by rw [extract_size a k hk]; omega
      rw [rightN_cons hp]
      have : (a.extract k a.size)[0].toNat = a[k].toNat := by
        have e := Lib.extract_to_end a k
        have hk' : k < a.data.toList.length := by simpa using hlt
        rw [List.drop_eq_getElem_cons hk'] at e
        have e0 : (a.extract k a.size).data.toList[0]? = some (a.data.toList[k]) := by rw [e]; rfl
        have e1 : (a.extract k a.size).data.toList[0]? = some ((a.extract k a.size)[0]) := by
          have : 0 < (a.extract k a.size).data.toList.length := by simpa using hp
          rw [List.getElem?_eq_getElem this]; rfl
        rw [e1] at e0
        have := Option.some.inj e0
        rw [this]; rfl
      rw [this]
      simp [h hlt]
    · have hz : (a.extract k a.size).size = 0 := by rw [extract_size a k hk]; omega
      have e : a.extract k a.size = ⟨#[]⟩ := by
        have h1 : (a.extract k a.size).data = #[] := Array.eq_empty_of_size_eq_zero hz
        generalize a.extract k a.size = c at h1 ⊢
        cases c; simp only at h1; rw [h1]
      rw [e]; exact rightN_nil
  simpa [rightN] using hr
set_option maxHeartbeats 1000000 in
theorem Canon_any (a : ByteArray) (w : World) (ha : a.size ≤ 100000000) :
    Calls Tryz.prog 28 #[.string a] w fun e w' => e = .returned (.string (encS (numS a))) ∧ w = w' := by
  have ha' : (a.size : Int) ≤ 100000000 := by omega
  clear ha
  go_enter Tryz.func28, Tryz.ntmps28
  go_wp2_with fail
  go_loop [3] (fun i => ∃ k : Nat, k ≤ a.size ∧ i = .int .i64 (k : Int) ∧ Hid (numS (a.extract k a.size) = numS a)) (fun i => a.size - (intOf i).toNat)
  case atStart => exact ⟨0, Nat.zero_le _, rfl, Lib.hid (by rw [extract_zero])⟩
  case round =>
    obtain ⟨k, hk, rfl, HN⟩ := hrel
    by_cases hlt : k < a.size
    · have hlt' : (k : Int) < (a.size : Int) := by omega
      obtain ⟨x, hx⟩ : ∃ x, a[k].toNat = x := ⟨_, rfl⟩
      have HX := Lib.hid hx
      by_cases h0 : x = 0
      · subst h0
        have HS := Lib.hid ((numS_step a hlt hx).trans HN.out)
        go_wp2_with fail
        go_round
        case rel => exact ⟨k + 1, by omega, by go_num, HS⟩
        case measure => simp [intOf]; omega
      · have hx1 : ¬ (x : Int) = 0 := by omega
        have hx2 : ((x : Int) == 0) = false := by simpa using hx1
        have HE := Lib.hid (canon_end a hk (fun _ => by rw [hx]; exact h0))
        clear h0
        go_wp2_with fail
        go_ret
        exact ⟨by rw [← HN.out, HE.out]; rfl, rfl⟩
    · have hge : ¬ (k : Int) < (a.size : Int) := by omega
      have HE := Lib.hid (canon_end a hk (fun h' => absurd h' hlt))
      clear hlt
      go_wp2_with fail
      go_ret
      exact ⟨by rw [← HN.out, HE.out]; rfl, rfl⟩
end Go.Proofs.YtakbkbmjeanboaaGreatDoor
