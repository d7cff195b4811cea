/- Plain laws of reading decimal numerals: no program in sight. -/
import Derived.Shelf.GgClosure.StringsIndexFunc
import Derived.Lib.AtoiAll
import Derived.Test.YtancflpioigjbaaGreatDoorApiE
import Derived.Test.YtancflpioigjbaaGreatDoorTexA
import Derived.Test.YtancflpioigjbaaGreatDoorLimL
import Derived.Lib.UnsafeStr
import Derived.Test.YtancflpioigjbaaGreatDoorDec
import Derived.Test.YtancflpioigjbaaGreatDoorRefJ
import Derived.Test.YtancflpioigjbaaGreatDoorRefZ
namespace Go.Proofs.YtancflpioigjbaaGreatDoor
open Go Go.Lib
set_option linter.unusedVariables false

def dB (c : UInt8) : Bool := decide (48 ≤ c.toNat ∧ c.toNat ≤ 57)
def notD (r : Nat) : Bool := decide (r < 48) || decide (57 < r)
/-- the number that digits spell, behind v -/
def decF (v : Nat) (l : List UInt8) : Nat := l.foldl (fun a c => a * 10 + (c.toNat - 48)) v
theorem decF_nil (v : Nat) : decF v [] = v := by simp only [decF, List.foldl_nil]
theorem decF_cons (v : Nat) (c : UInt8) (l : List UInt8) : decF v (c :: l) = decF (v * 10 + (c.toNat - 48)) l := by simp only [decF, List.foldl_cons]
def decV (l : List UInt8) : Nat := decF 0 l
/-- which texts Parse reads -/
def okP (l : List UInt8) : Bool := !l.isEmpty && !(decide (1 < l.length) && (l.headD 0 == 48)) && l.all dB
def parB (s : ByteArray) : Bool := okP s.data.toList
def parV (s : ByteArray) : Nat := if okP s.data.toList = true then decV s.data.toList else 0
theorem decF_append : ∀ (a b : List UInt8) (v : Nat), decF v (a ++ b) = decF (decF v a) b
  | [], _, _ => rfl
  | c :: a, b, v => by rw [List.cons_append, decF_cons, decF_cons, decF_append a b]
theorem decF_pow : ∀ (l : List UInt8) (v : Nat), decF v l = v * 10 ^ l.length + decF 0 l
  | [], v => by simp [decF_nil]
  | c :: l, v => by
    rw [decF_cons, decF_pow l, decF_cons, decF_pow l (0 * 10 + _), List.length_cons, Nat.pow_succ, Nat.add_mul, Nat.mul_assoc, Nat.mul_comm 10, Nat.zero_mul, Nat.zero_add, Nat.add_assoc]
theorem decF_lt : ∀ (l : List UInt8), l.all dB = true → decF 0 l < 10 ^ l.length
  | [], _ => by simp [decF_nil]
  | c :: l, h => by
    simp only [List.all_cons, Bool.and_eq_true] at h
    have hc : 48 ≤ c.toNat ∧ c.toNat ≤ 57 := by simpa [dB] using h.1
    have ih := decF_lt l h.2
    rw [decF_cons, decF_pow, List.length_cons, Nat.pow_succ]
    obtain ⟨P, hP⟩ : ∃ P, 10 ^ l.length = P := ⟨_, rfl⟩
    rw [hP] at ih ⊢
    have h2 : (0 * 10 + (c.toNat - 48)) * P ≤ 9 * P := Nat.mul_le_mul_right P (by omega)
    omega
theorem decode_low (s : ByteArray) (i : Nat) (h : (s.get! i).toNat < 128) : Utf8.decode s i = ((s.get! i).toNat, 1) := by
  unfold Utf8.decode
  simp only [Nat.add_zero]
  rw [if_pos h]
theorem decode_high (s : ByteArray) (i : Nat) (h : 128 ≤ (s.get! i).toNat) : 128 ≤ (Utf8.decode s i).1 := by
  unfold Utf8.decode
  simp only [Nat.add_zero]
  rw [if_neg (by omega)]
  split
  · split
    · assumption
    · decide
  · split
    · split
      · rename_i h2
        simp only [Bool.and_eq_true, decide_eq_true_eq] at h2
        have := h2.1; omega
      · decide
    · split
      · split
        · rename_i h2
          simp only [Bool.and_eq_true, decide_eq_true_eq] at h2
          have := h2.1; omega
        · decide
      · decide
theorem get_bang (s : ByteArray) {i : Nat} (h : i < s.size) : s.get! i = s.data.toList[i]'(by simpa using h) := by
  have : s.get! i = s.data[i]! := rfl
  rw [this, getElem!_pos s.data i h]; simp
theorem idx_digits (s : ByteArray) : ∀ (f pos : Nat), s.size ≤ pos + f → decide (0 ≤ idxFuncFrom notD true s f pos) = !((s.data.toList.drop pos).all dB)
  | 0, pos, h => by
    have : s.data.toList.drop pos = [] := List.drop_eq_nil_of_le (by simp; omega)
    rw [this]; rfl
  | f + 1, pos, h => by
    unfold idxFuncFrom
    by_cases hp : pos < s.size
    · rw [if_pos hp]
      have hl : pos < s.data.toList.length := by simpa using hp
      rw [List.drop_eq_getElem_cons hl, List.all_cons]
      have hg := get_bang s hp
      obtain ⟨c, hc⟩ : ∃ c, s.data.toList[pos] = c := ⟨_, rfl⟩
      rw [hc] at hg ⊢
      by_cases hlow : c.toNat < 128
      · have hd := decode_low s pos (by rw [hg]; exact hlow)
        rw [hd, hg]
        by_cases hdig : 48 ≤ c.toNat ∧ c.toNat ≤ 57
        · have h1 : notD c.toNat = false := by simp [notD]; omega
          have h2 : dB c = true := by simp [dB]; exact hdig
          rw [h1, h2]
          simp only [Bool.false_eq_true, if_false, Bool.true_and]
          exact idx_digits s f (pos + 1) (by omega)
        · have h1 : notD c.toNat = true := by simp [notD]; omega
          have h2 : dB c = false := by simp [dB]; omega
          rw [h1, h2]
          simp
      · have hd := decode_high s pos (by rw [hg]; omega)
        have h1 : notD (Utf8.decode s pos).1 = true := by simp [notD]; omega
        have h2 : dB c = false := by simp [dB]; omega
        rw [h1, h2]
        simp
    · rw [if_neg hp, List.drop_eq_nil_of_le (by simp; omega)]; rfl
theorem has_other (s : ByteArray) : decide (0 ≤ idxFunc notD true s) = !(s.data.toList.all dB) := by
  have h := idx_digits s s.size 0 (by omega)
  rw [List.drop_zero] at h
  exact h
theorem uint_digits : ∀ (l : List UInt8) (v : Nat), l.all dB = true → v * 10 ^ l.length + decF 0 l < 1844674407370955162 → parseUint10 v l = .ok (decF v l)
  | [], v, _, _ => by rw [parseUint10, decF_nil]
  | c :: l, v, h, hb => by
    simp only [List.all_cons, Bool.and_eq_true] at h
    have hc : 48 ≤ c.toNat ∧ c.toNat ≤ 57 := by simpa [dB] using h.1
    rw [parseUint10, if_pos hc, decF_cons]
    have h1 : v * 10 ^ (l.length + 1) + decF 0 (c :: l) = (v * 10 + (c.toNat - 48)) * 10 ^ l.length + decF 0 l := by
      rw [decF_cons, decF_pow l (0 * 10 + _), Nat.zero_mul, Nat.zero_add, Nat.pow_succ, Nat.add_mul, Nat.mul_assoc v 10, Nat.mul_comm 10 (10 ^ l.length)]; omega
    rw [List.length_cons, h1] at hb
    have hp : 1 ≤ 10 ^ l.length := Nat.one_le_pow _ _ (by decide)
    have h2 : v * 10 + (c.toNat - 48) ≤ (v * 10 + (c.toNat - 48)) * 10 ^ l.length := Nat.le_mul_of_pos_right _ hp
    rw [if_neg (by omega), if_neg (by omega)]
    exact uint_digits l _ h.2 hb
theorem atoi_digits {l : List UInt8} (h : l.all dB = true) (h0 : l ≠ []) (hl : l.length ≤ 9) : atoiAll l = .ok ((decV l : Nat) : Int) := by
  match l, h0 with
  | c :: r, _ =>
    have h' := h
    simp only [List.all_cons, Bool.and_eq_true] at h'
    have hc : 48 ≤ c.toNat ∧ c.toNat ≤ 57 := by simpa [dB] using h'.1
    have hlt := decF_lt (c :: r) h
    have hp : (10 : Nat) ^ (c :: r).length ≤ 10 ^ 9 := Nat.pow_le_pow_right (by decide) hl
    have hu := uint_digits (c :: r) 0 h (by rw [Nat.zero_mul, Nat.zero_add]; omega)
    unfold atoiAll
    have h1 : ¬ (c.toNat = 43 ∨ c.toNat = 45) := by omega
    simp only [if_neg h1, parseMag]
    rw [if_neg (by simp), hu]
    have h2 : ¬ c.toNat = 45 := by omega
    have h3 : decF 0 (c :: r) < 10 ^ 9 := by omega
    simp only [h2, not_false_eq_true, true_and, false_and, if_false]
    rw [if_neg (by omega)]
    rfl
end Go.Proofs.YtancflpioigjbaaGreatDoor
/- Parse of package nat. Each theorem names its conditions. -/
namespace Go.Proofs.YtancflpioigjbaaGreatDoor
open Go.RowKit Go.Shelf
open Dgt
set_option linter.unusedVariables false

theorem below_bytes (w : World) (e : TypeId) (s : ByteArray) : Below w.heap.size w (Lib.bytesWorld w e s) := by
  unfold Lib.bytesWorld
  exact Lib.below_freeze ((Below.refl _ w).drew.alloc (Nat.le_refl _) _) (Nat.le_refl _) _
set_option maxHeartbeats 1000000 in
set_option maxRecDepth 100000 in
theorem other_any (x : Nat) (hx : x ≤ 1114111) (w : World) : Calls Tryz.prog 88 #[.int .i32 (x : Int)] w fun e w' => e = .returned (.bool (notD x)) ∧ Below w.heap.size w w' := by
  by_cases h1 : x < 48
  · have hE : Hid (notD x = true) := Lib.hid (by simp [notD, h1])
    have h1' : (x : Int) < 48 := by omega
    clear h1
    go_enter Tryz.func88, Tryz.ntmps88
    go_wp2_with fail
    go_ret
    exact ⟨by rw [hE.out]; rfl, Below.refl _ _⟩
  · have h1' : ¬ (x : Int) < 48 := by omega
    by_cases h2 : 57 < x
    · have hE : Hid (notD x = true) := Lib.hid (by simp [notD, h2])
      have h2' : 57 < (x : Int) := by omega
      clear h1 h2
      go_enter Tryz.func88, Tryz.ntmps88
      go_wp2_with fail
      go_ret
      exact ⟨by rw [hE.out]; rfl, Below.refl _ _⟩
    · have hE : Hid (notD x = false) := Lib.hid (by simp [notD]; omega)
      have h2' : ¬ 57 < (x : Int) := by omega
      clear h1 h2
      go_enter Tryz.func88, Tryz.ntmps88
      go_wp2_with fail
      go_ret
      exact ⟨by rw [hE.out]; rfl, Below.refl _ _⟩
theorem pred_any (w : World) : PredGrows Tryz.prog 88 #[] notD w := fun W x hx _ => other_any x hx W
theorem contains_any (s : ByteArray) (w : World) :
    Calls Tryz.prog 87 #[.string s, .func (.func 88) #[] #[]] w fun e w' => e = .returned (.bool (!(s.data.toList.all dB))) ∧ Below w.heap.size w w' := by
  have h := Tryz.strings_ContainsFunc_grows 88 #[] (enters_of Tryz.func88 (by kernel_rfl) rfl) notD s w (pred_any w)
  rw [has_other] at h
  exact h
theorem ext_takeB (r : List UInt8) (k : Nat) : (⟨r.toArray⟩ : ByteArray).extract 0 k = ⟨(r.take k).toArray⟩ := by
  apply ByteArray.ext
  rw [ByteArray.data_extract]
  simp
theorem ext_dropB (r : List UInt8) (k : Nat) : (⟨r.toArray⟩ : ByteArray).extract k r.length = ⟨(r.drop k).toArray⟩ := by
  apply ByteArray.ext
  rw [ByteArray.data_extract]
  simp
  exact List.take_of_length_le (by simp)
theorem part_val {V n : Nat} {r : List UInt8} (h : V = 0 ∨ n = 9) (hn : (r.take n).length = n) : V * 1000000000 + decV (r.take n) = decF V (r.take n) := by
  rw [decF_pow, hn]
  rcases h with rfl | rfl
  · simp [decV]
  · rfl
set_option maxHeartbeats 4000000 in
set_option maxRecDepth 100000 in
theorem Parse_any (s : ByteArray) (w : World) (hs : s.size ≤ 100000) :
    Calls Tryz.prog 62 #[.string s] w fun e w' => e = .returned (.tuple #[.string (encS (parV s)), .bool (parB s)]) ∧ Below w.heap.size w w' := by
  obtain ⟨l, rfl⟩ : ∃ l : List UInt8, s = ⟨l.toArray⟩ := ⟨s.data.toList, by simp⟩
  have hsl : l.length ≤ 100000 := hs
  have hsl' : (l.length : Int) ≤ 100000 := by omega
  have HCF := Lib.hid (contains_any (⟨l.toArray⟩ : ByteArray))
  have hdl : (⟨l.toArray⟩ : ByteArray).data.toList = l := by simp
  rw [hdl] at HCF
  have HOK := Lib.hid (show parB ⟨l.toArray⟩ = okP l from by unfold parB; rw [hdl])
  have HPV := Lib.hid (show parV ⟨l.toArray⟩ = if okP l = true then decV l else 0 from by unfold parV; rw [hdl])
  rcases l with _ | ⟨c, r⟩
  · have hE1 : Hid (parV ⟨([] : List UInt8).toArray⟩ = 0) := Lib.hid (by rw [HPV.out]; rfl)
    have hE2 : Hid (parB ⟨([] : List UInt8).toArray⟩ = false) := Lib.hid (by rw [HOK.out]; rfl)
    clear hs hsl hsl' hdl
    go_enter Tryz.func62, Tryz.ntmps62
    go_wp2_with fail
    go_ret2
    exact ⟨by rw [hE1.out, hE2.out, encS_zero]; rfl, Below.refl _ _⟩
  · have hl0 : 0 < (⟨(c :: r).toArray⟩ : ByteArray).size := Nat.succ_pos _
    have hget : ((⟨(c :: r).toArray⟩ : ByteArray)[0]'hl0) = c := rfl
    have hne : (⟨(c :: r).toArray⟩ : ByteArray).toList.isEmpty = false := by rw [ByteArray.toList_eq]; rfl
    have hsz : (⟨(c :: r).toArray⟩ : ByteArray).size = r.length + 1 := rfl
    obtain ⟨S, hS⟩ : ∃ S : ByteArray, S = ⟨(c :: r).toArray⟩ := ⟨_, rfl⟩
    rw [← hS] at HCF HOK HPV hne hs hsz ⊢
    clear hget hl0
    have hl0 : 0 < S.size := by omega
    have hget : S[0]'hl0 = c := by subst hS; rfl
    have HS := Lib.hid hS
    obtain ⟨x, hx⟩ : ∃ x, c.toNat = x := ⟨_, rfl⟩
    obtain ⟨n, hn⟩ : ∃ n : Nat, S.size = n := ⟨_, rfl⟩
    have hrn : n = r.length + 1 := by omega
    have hn9 : (n : Int) ≤ 100000 := by omega
    have hgx : (((S[0]'hl0).toNat : Nat) : Int) = (x : Int) := by rw [hget, hx]
    have HX := Lib.hid hx; have HN := Lib.hid hn
    by_cases hz : 1 < n ∧ x = 48
    · have hE0 : okP (c :: r) = false := by
        have h1 : c = 48 := UInt8.toNat_inj.1 (by rw [hx, hz.2]; rfl)
        subst h1
        have : 1 < r.length + 1 := by omega
        have h2 : decide (1 < ((48 : UInt8) :: r).length) = true := by rw [decide_eq_true_eq]; exact this
        simp only [okP, h2]
        rfl
      have hE1 : Hid (parV S = 0) := Lib.hid (by rw [HPV.out, hE0]; rfl)
      have hE2 : Hid (parB S = false) := Lib.hid (by rw [HOK.out, hE0])
      have hb1 : decide (1 < (S.size : Int)) = true := by simp; omega
      have hxb : ((((S[0]'hl0).toNat : Nat) : Int) == 48) = true := by rw [beq_iff_eq]; omega
      clear hs hsl hsl' hdl hz hx hn hE0 hget hgx hsz hrn hn9 hS
      go_enter Tryz.func62, Tryz.ntmps62
      go_wp2_with fail
      go_ret2
      exact ⟨by rw [hE1.out, hE2.out, encS_zero]; rfl, Below.refl _ _⟩
    · obtain ⟨bA, hbA⟩ : ∃ bA : Bool, decide (1 < (S.size : Int)) = bA := ⟨_, rfl⟩
      obtain ⟨bB, hbB⟩ : ∃ bB : Bool, ((((S[0]'hl0).toNat : Nat) : Int) == 48) = bB := ⟨_, rfl⟩
      have hAB : (bA && bB) = false := by
        rw [← hbA, ← hbB]
        by_cases h1 : 1 < n
        · have : ¬ (x = 48) := fun h => hz ⟨h1, h⟩
          have : ((((S[0]'hl0).toNat : Nat) : Int) == 48) = false := by rw [beq_eq_false_iff_ne]; omega
          rw [this, Bool.and_false]
        · have : decide (1 < (S.size : Int)) = false := by simp; omega
          rw [this, Bool.false_and]
      have HOK2 : Hid (okP (c :: r) = (c :: r).all dB) := Lib.hid (by
        have h1 : (decide (1 < (c :: r).length) && ((c :: r).headD 0 == 48)) = false := by
          by_cases h1 : 1 < n
          · have h2 : ¬ c = 48 := fun h => hz ⟨h1, by rw [← hx, h]; rfl⟩
            simp [h2]
          · have : ¬ 1 < (c :: r).length := by have e : (c :: r).length = r.length + 1 := rfl; omega
            simp only [this, decide_false, Bool.false_and]
        simp only [okP, h1, List.isEmpty_cons, Bool.not_false, Bool.true_and])
      have HSL : Hid (r.length < 100000) := Lib.hid (by have h1 : S.size ≤ 100000 := hs; have h2 : S.size = r.length + 1 := hsz; omega)
      obtain ⟨bC, hbC⟩ : ∃ bC : Bool, (c :: r).all dB = bC := ⟨_, rfl⟩
      rw [hbC] at HCF HOK2
      have HBC := Lib.hid hbC
      clear hs hsl hsl' hdl hz hx hn hget hgx hsz hrn hn9 hbC hS
      go_enter Tryz.func62, Tryz.ntmps62
      cases bC
      · have hE1 : Hid (parV S = 0) := Lib.hid (by rw [HPV.out, HOK2.out]; rfl)
        have hE2 : Hid (parB S = false) := Lib.hid (by rw [HOK.out, HOK2.out])
        cases bA <;> cases bB
        all_goals first | cases hAB | skip
        all_goals
          go_wp2_with fail
          refine (HCF.out _).mono ?_
          rintro e w1 ⟨rfl, hb⟩
          have HB := Lib.hid hb
          clear hb
          go_wp2_with fail
          go_ret2
          exact ⟨by rw [hE1.out, hE2.out, encS_zero]; rfl, HB.out⟩
      · have hE1 : Hid (parV S = decV (c :: r)) := Lib.hid (by rw [HPV.out, HOK2.out]; rfl)
        have hE2 : Hid (parB S = true) := Lib.hid (by rw [HOK.out, HOK2.out])
        cases bA <;> cases bB
        all_goals first | cases hAB | skip
        all_goals
          go_wp2_with fail
          refine (HCF.out _).mono ?_
          rintro e w1 ⟨rfl, hb⟩
          have HB := Lib.hid hb
          clear hb
          go_wp2_with fail
          go_loopw [0, 4] (fun s v wr => ∃ (q : List UInt8) (V : Nat), s = .string ⟨q.toArray⟩ ∧ Hid (q.all dB = true) ∧ Hid (decF V q = decV (c :: r)) ∧ Hid (V = 0 ∨ q.length % 9 = 0) ∧ Hid (Lim wr v (digs 4294967296 V)) ∧ Hid (q.length ≤ 100000) ∧ Hid (Below w.heap.size w wr)) (fun s _ _ => strLen s)
          case atStart => exact ⟨c :: r, 0, by rw [HS.out], HBC, Lib.hid rfl, Lib.hid (.inl rfl), Lib.hid (by rw [digs_zero]; exact LimK.nil_ _ _ _), Lib.hid HSL.out, HB⟩
          case round =>
            obtain ⟨q, V, rfl, HQ, HDV, HV9, HLV, HQL, HBW⟩ := hrel
            have hVD : V ≤ decV (c :: r) := by
              rw [← HDV.out, decF_pow]
              exact Nat.le_trans (Nat.le_mul_of_pos_right V (Nat.pow_pos (by decide))) (Nat.le_add_right _ _)
            have HLN : Hid ((digs 4294967296 V).length ≤ 100000) := Lib.hid (by
              have h1 := decF_lt (c :: r) HBC.out
              have h2 : decV (c :: r) < 4294967296 ^ (c :: r).length := Nat.lt_of_lt_of_le h1 (Nat.pow_le_pow_left (by decide) _)
              exact Nat.le_trans (digs_len_le (by decide) (Nat.lt_of_le_of_lt hVD h2)) HSL.out)
            clear hVD
            rcases q with _ | ⟨d, q'⟩
            · have hne : (⟨#[]⟩ : ByteArray).toList.isEmpty = true := by rw [ByteArray.toList_eq]; rfl
              have HR : Hid (V = decV (c :: r)) := Lib.hid (by rw [← HDV.out, decF_nil])
              go_wp2_with fail
              refine (number_any _ _ _ HLV.out (by have := HLN.out; omega)).mono ?_
              rintro e w2 ⟨rfl, hb⟩
              rw [valB_digs (by decide)]
              have HB2 := Lib.hid (HBW.out.trans (hb.mono HBW.out.size))
              clear hb
              go_wp2_with fail
              go_ret2
              exact ⟨by rw [hE1.out, hE2.out, HR.out]; rfl, HB2.out⟩
            · obtain ⟨q, hq⟩ : ∃ q, d :: q' = q := ⟨_, rfl⟩
              rw [hq] at HQ HDV HV9 HQL ⊢
              have hq0 : q ≠ [] := by rw [← hq]; simp
              obtain ⟨X, hX⟩ : ∃ X : ByteArray, X = ⟨q.toArray⟩ := ⟨_, rfl⟩
              have hne : X.toList.isEmpty = false := by rw [hX, ByteArray.toList_eq, ← hq]; rfl
              have hXs : X.size = q.length := by rw [hX]; rfl
              rw [← hX]
              obtain ⟨L, hL⟩ : ∃ L, q.length = L := ⟨_, rfl⟩
              rw [hL] at hXs
              have hL0 : 0 < L := by rw [← hL]; exact List.length_pos_iff.2 hq0
              have hL9 : L ≤ 100000 := by rw [← hL]; exact HQL.out
              obtain ⟨m, hm⟩ : ∃ m, L % 9 = m := ⟨_, rfl⟩
              have hmod : (X.size : Int).tmod 9 = (m : Int) := by rw [hXs, ← hm]; exact (Int.ofNat_tmod L 9).symm
              obtain ⟨n, hn⟩ : ∃ n : Nat, (if m = 0 then 9 else m) = n := ⟨_, rfl⟩
              have hnL : n ≤ L := by rw [← hn]; split <;> omega
              have hn0 : 0 < n := by rw [← hn]; split <;> omega
              have hn9 : n ≤ 9 := by rw [← hn]; split <;> omega
              have HMD : Hid ((L - n) % 9 = 0 ∧ (V = 0 ∨ n = 9)) := Lib.hid (by
                constructor
                · rw [← hn]; split <;> omega
                · rcases HV9.out with h | h
                  · exact .inl h
                  · rw [hL] at h; right; rw [← hn, if_pos (by omega)])
              have HT : Hid ((q.take n).length = n) := Lib.hid (by rw [List.length_take, hL]; omega)
              have HAL : Hid ((q.take n).all dB = true ∧ (q.drop n).all dB = true) := Lib.hid (by
                have h := HQ.out
                rw [← List.take_append_drop n q, List.all_append, Bool.and_eq_true] at h
                exact h)
              obtain ⟨p, hp⟩ : ∃ p, decV (q.take n) = p := ⟨_, rfl⟩
              have hp9 : p < 1000000000 := by
                have h1 := decF_lt (q.take n) HAL.out.1
                have h2 : (10 : Nat) ^ (q.take n).length ≤ 10 ^ 9 := Nat.pow_le_pow_right (by decide) (by rw [HT.out]; exact hn9)
                rw [← hp]; exact Nat.lt_of_lt_of_le h1 h2
              have HAT : Hid (Lib.atoiAll (X.extract 0 n).data.toList = .ok (p : Int)) := Lib.hid (by
                rw [hX, ext_takeB, ← hp]
                have e : (⟨(q.take n).toArray⟩ : ByteArray).data.toList = q.take n := by simp
                rw [e]
                exact atoi_digits HAL.out.1 (by intro h; have := HT.out; rw [h] at this; simp at this; omega) (by rw [HT.out]; exact hn9))
              have HXE2 : Hid (X.extract n X.size = ⟨(q.drop n).toArray⟩) := Lib.hid (by rw [hXs, hX, ← hL]; exact ext_dropB q n)
              have HES : Hid ((X.extract 0 n).size ≤ 9223372036854775806) := Lib.hid (by rw [ByteArray.size_extract]; omega)
              have HVP : Hid (decF (V * 1000000000 + p) (q.drop n) = decV (c :: r)) := Lib.hid (by
                rw [← hp, part_val HMD.out.2 HT.out, ← decF_append, List.take_append_drop, HDV.out])
              have HLX := Lib.hid hL; have HN0 := Lib.hid hn0; have HNL := Lib.hid hnL; have HL9 := Lib.hid hL9
              have hmb : ((m : Int) == 0) = decide (m = 0) := by
                by_cases h : m = 0
                · subst h; rfl
                · rw [decide_eq_false h, beq_eq_false_iff_ne]; omega
              have HP9 := Lib.hid hp9
              have HXS := Lib.hid hXs
              have hnl1 : (n : Int) ≤ (X.size : Int) := by omega
              have hn1 : (n : Int) ≤ 9 := by omega
              have hp1 : (p : Int) < 1000000000 := by omega
              have hwp : IntKind.u32.wrap (p : Int) = (p : Int) := by rw [IntKind.wrap_u32']; omega
              by_cases hm0 : m = 0
              · rw [if_pos hm0] at hn
                rw [decide_eq_true hm0] at hmb
                clear hX hXs hq0 hL hL0 hL9 hm hnL hn0 hn9 hp hp9 hm0 hq HQ HDV HV9 HQL
                subst hn
                go_wp2_with fail
                refine (Tryz.strconv_Atoi_ok _ HES.out _ HAT.out _).mono ?_
                rintro e w2 ⟨rfl, hw2⟩
                have hb2 : Below wr.heap.size wr w2 := by
                  rcases hw2 with rfl | ⟨t, rfl⟩
                  · exact Below.refl _ _
                  · exact below_bytes _ _ _
                have HB2 := Lib.hid (HBW.out.trans (hb2.mono HBW.out.size))
                have hv := HLV.out.up hb2
                obtain ⟨pv, nv, cv, rfl, hnv, -⟩ := hv.open_
                have H2 := Lib.hid hv
                have hlp : (digs 4294967296 (V * 1000000000)).length ≤ 1000000000 := by
                  have h1 : V * 1000000000 < 4294967296 ^ ((digs 4294967296 V).length + 1) := by
                    rw [Nat.pow_succ]
                    have h2 := valB_lt (okB_digs (B := 4294967296) (by decide) V)
                    rw [valB_digs (by decide)] at h2
                    exact Nat.mul_lt_mul_of_lt_of_le h2 (by decide) (by decide)
                  exact Nat.le_trans (digs_len_le (by decide) h1) (by have := HLN.out; omega)
                have hlq : (digs 4294967296 p).length ≤ 1000000000 := Nat.le_trans (digs_len_le (k := 1) (by decide) (by have := HP9.out; omega)) (by decide)
                have HLP := Lib.hid hlp; have HLQ := Lib.hid hlq
                have HNV := Lib.hid hnv
                clear hw2 hb2 hv hlp hlq hnv
                have HL1 := Lib.hid (lim_one w2 (r := 1000000000) (by decide))
                have H2 := Lib.hid (H2.out.up ((Below.refl _ w2).alloc (Nat.le_refl _) (.cells #[.int .u32 ((1000000000 : Nat) : Int)] 86)))
                have HB2 := Lib.hid (HB2.out.alloc HB2.out.size (.cells #[.int .u32 ((1000000000 : Nat) : Int)] 86))
                go_wp2_with fail
                refine (product_any _ _ _ _ _ H2.out HL1.out (by have := HLN.out; omega) (by decide)).mono ?_
                rintro e w3 ⟨vp, rfl, hp, hb⟩
                rw [valB_digs (by decide), valB_one] at hp
                have HB3 := Lib.hid ((HB2.out.trans (hb.mono HB2.out.size)).alloc (Nat.le_trans HB2.out.size hb.size) (.cells #[.int .u32 (p : Int)] 86))
                have HP3 := Lib.hid (hp.up ((Below.refl _ w3).alloc (Nat.le_refl _) (.cells #[.int .u32 (p : Int)] 86)))
                have HLX1 := Lib.hid (lim_one w3 (r := p) (by have := HP9.out; omega))
                clear hb hp
                go_wp2_with fail
                refine (trim_any _ _ _ HLX1.out).mono ?_
                rintro e w4 ⟨vr, rfl, hvr, rfl⟩
                have hvr' : Lim (w3.alloc (.cells #[.int .u32 (p : Int)] 86)) vr (digs 4294967296 p) := by
                  have e : trimL 4294967296 [p] = digs 4294967296 p := by unfold trimL; rw [valB_one]
                  rw [← e]; exact hvr
                have HVR := Lib.hid hvr'
                clear hvr hvr'
                go_wp2_with fail
                refine (sum_any _ _ _ _ _ HP3.out HVR.out HLP.out HLQ.out).mono ?_
                rintro e w5 ⟨vs, rfl, hs, hb⟩
                rw [valB_digs (by decide), valB_digs (by decide)] at hs
                have HS5 := Lib.hid hs
                have HB5 := Lib.hid (HB3.out.trans (hb.mono HB3.out.size))
                clear hs hb
                go_wp2_with fail
                go_roundw
                case rel => exact ⟨q.drop 9, V * 1000000000 + p, by rw [HXE2.out], Lib.hid HAL.out.2, HVP, Lib.hid (by right; rw [List.length_drop, HLX.out]; exact HMD.out.1), HS5, Lib.hid (by rw [List.length_drop, HLX.out]; have := HL9.out; omega), HB5⟩
                case measure =>
                  rw [HXE2.out]
                  have e1 : ∀ l : List UInt8, strLen (.string ⟨l.toArray⟩) = l.length := fun l => rfl
                  have e2 : strLen (.string X) = L := HXS.out
                  rw [e1, e2, List.length_drop, HLX.out]
                  have := HN0.out; have := HNL.out; omega
              · rw [if_neg hm0] at hn
                subst hn
                rw [decide_eq_false hm0] at hmb
                clear hX hXs hq0 hL hL0 hL9 hm hnL hn0 hn9 hp hp9 hm0 hq HQ HDV HV9 HQL
                go_wp2_with fail
                refine (Tryz.strconv_Atoi_ok _ HES.out _ HAT.out _).mono ?_
                rintro e w2 ⟨rfl, hw2⟩
                have hb2 : Below wr.heap.size wr w2 := by
                  rcases hw2 with rfl | ⟨t, rfl⟩
                  · exact Below.refl _ _
                  · exact below_bytes _ _ _
                have HB2 := Lib.hid (HBW.out.trans (hb2.mono HBW.out.size))
                have hv := HLV.out.up hb2
                obtain ⟨pv, nv, cv, rfl, hnv, -⟩ := hv.open_
                have H2 := Lib.hid hv
                have hlp : (digs 4294967296 (V * 1000000000)).length ≤ 1000000000 := by
                  have h1 : V * 1000000000 < 4294967296 ^ ((digs 4294967296 V).length + 1) := by
                    rw [Nat.pow_succ]
                    have h2 := valB_lt (okB_digs (B := 4294967296) (by decide) V)
                    rw [valB_digs (by decide)] at h2
                    exact Nat.mul_lt_mul_of_lt_of_le h2 (by decide) (by decide)
                  exact Nat.le_trans (digs_len_le (by decide) h1) (by have := HLN.out; omega)
                have hlq : (digs 4294967296 p).length ≤ 1000000000 := Nat.le_trans (digs_len_le (k := 1) (by decide) (by have := HP9.out; omega)) (by decide)
                have HLP := Lib.hid hlp; have HLQ := Lib.hid hlq
                have HNV := Lib.hid hnv
                clear hw2 hb2 hv hlp hlq hnv
                have HL1 := Lib.hid (lim_one w2 (r := 1000000000) (by decide))
                have H2 := Lib.hid (H2.out.up ((Below.refl _ w2).alloc (Nat.le_refl _) (.cells #[.int .u32 ((1000000000 : Nat) : Int)] 86)))
                have HB2 := Lib.hid (HB2.out.alloc HB2.out.size (.cells #[.int .u32 ((1000000000 : Nat) : Int)] 86))
                go_wp2_with fail
                refine (product_any _ _ _ _ _ H2.out HL1.out (by have := HLN.out; omega) (by decide)).mono ?_
                rintro e w3 ⟨vp, rfl, hp, hb⟩
                rw [valB_digs (by decide), valB_one] at hp
                have HB3 := Lib.hid ((HB2.out.trans (hb.mono HB2.out.size)).alloc (Nat.le_trans HB2.out.size hb.size) (.cells #[.int .u32 (p : Int)] 86))
                have HP3 := Lib.hid (hp.up ((Below.refl _ w3).alloc (Nat.le_refl _) (.cells #[.int .u32 (p : Int)] 86)))
                have HLX1 := Lib.hid (lim_one w3 (r := p) (by have := HP9.out; omega))
                clear hb hp
                go_wp2_with fail
                refine (trim_any _ _ _ HLX1.out).mono ?_
                rintro e w4 ⟨vr, rfl, hvr, rfl⟩
                have hvr' : Lim (w3.alloc (.cells #[.int .u32 (p : Int)] 86)) vr (digs 4294967296 p) := by
                  have e : trimL 4294967296 [p] = digs 4294967296 p := by unfold trimL; rw [valB_one]
                  rw [← e]; exact hvr
                have HVR := Lib.hid hvr'
                clear hvr hvr'
                go_wp2_with fail
                refine (sum_any _ _ _ _ _ HP3.out HVR.out HLP.out HLQ.out).mono ?_
                rintro e w5 ⟨vs, rfl, hs, hb⟩
                rw [valB_digs (by decide), valB_digs (by decide)] at hs
                have HS5 := Lib.hid hs
                have HB5 := Lib.hid (HB3.out.trans (hb.mono HB3.out.size))
                clear hs hb
                go_wp2_with fail
                go_roundw
                case rel => exact ⟨q.drop m, V * 1000000000 + p, by rw [HXE2.out], Lib.hid HAL.out.2, HVP, Lib.hid (by right; rw [List.length_drop, HLX.out]; exact HMD.out.1), HS5, Lib.hid (by rw [List.length_drop, HLX.out]; have := HL9.out; omega), HB5⟩
                case measure =>
                  rw [HXE2.out]
                  have e1 : ∀ l : List UInt8, strLen (.string ⟨l.toArray⟩) = l.length := fun l => rfl
                  have e2 : strLen (.string X) = L := HXS.out
                  rw [e1, e2, List.length_drop, HLX.out]
                  have := HN0.out; have := HNL.out; omega
end Go.Proofs.YtancflpioigjbaaGreatDoor
/- Plain laws: what Text wrote is read again. -/
namespace Go.Proofs.YtancflpioigjbaaGreatDoor
open Go Go.Lib
set_option linter.unusedVariables false

theorem dig_nat {m : Nat} (h : m < 10) : (UInt8.ofNat (48 + m)).toNat = 48 + m := by rw [UInt8.toNat_ofNat']; omega
theorem dig_dB {m : Nat} (h : m < 10) : dB (UInt8.ofNat (48 + m)) = true := by
  unfold dB; rw [dig_nat h, decide_eq_true_eq]; omega
theorem dec_spec : ∀ (n : Nat), (decDigits n).all dB = true ∧ decF 0 (decDigits n) = n ∧ (n = 0 ∨ (decDigits n).headD 0 ≠ 48) ∧ decDigits n ≠ [] := by
  intro n
  induction n using Nat.strongRecOn with
  | _ n ih =>
    by_cases h : n < 10
    · rw [decDigits_one h]
      refine ⟨by rw [List.all_cons, dig_dB h]; rfl, by rw [decF_cons, decF_nil, dig_nat h]; omega, ?_, by simp⟩
      rcases Nat.eq_zero_or_pos n with h0 | h0
      · exact .inl h0
      · right
        show UInt8.ofNat (48 + n) ≠ 48
        intro e
        have := congrArg UInt8.toNat e
        rw [dig_nat h] at this
        have h48 : (48 : UInt8).toNat = 48 := rfl
        omega
    · obtain ⟨h1, h2, h3, h4⟩ := ih (n / 10) (by omega)
      rw [decDigits, dif_neg h]
      have hm : n % 10 < 10 := Nat.mod_lt _ (by decide)
      refine ⟨by rw [List.all_append, h1, List.all_cons, dig_dB hm]; rfl, by rw [decF_append, h2, decF_cons, decF_nil, dig_nat hm]; omega, ?_, by simp⟩
      right
      rcases h3 with h3 | h3
      · omega
      · match hd : decDigits (n / 10), h4 with
        | c :: r, _ => rw [hd] at h3; simpa using h3
theorem ok_dec (n : Nat) : okP (decDigits n) = true := by
  obtain ⟨h1, h2, h3, h4⟩ := dec_spec n
  have e1 : (decDigits n).isEmpty = false := by
    match hd : decDigits n, h4 with
    | c :: r, _ => rfl
  have e2 : (decide (1 < (decDigits n).length) && ((decDigits n).headD 0 == 48)) = false := by
    rcases h3 with rfl | h3
    · rw [decDigits_one (by decide)]; rfl
    · have : ((decDigits n).headD 0 == 48) = false := by simpa using h3
      rw [this, Bool.and_false]
  simp only [okP, e1, e2, h1]; rfl
theorem parB_dec (n : Nat) : parB ⟨(decDigits n).toArray⟩ = true := by
  have e : (⟨(decDigits n).toArray⟩ : ByteArray).data.toList = decDigits n := by simp
  unfold parB; rw [e]; exact ok_dec n
theorem parV_dec (n : Nat) : parV ⟨(decDigits n).toArray⟩ = n := by
  have e : (⟨(decDigits n).toArray⟩ : ByteArray).data.toList = decDigits n := by simp
  unfold parV; rw [e, if_pos (ok_dec n)]; exact (dec_spec n).2.1
end Go.Proofs.YtancflpioigjbaaGreatDoor
/- Text of the reference implementation. Each theorem names its conditions. -/
namespace Go.Proofs.YtancflpioigjbaaGreatDoor
open Go.RowKit Go.Shelf
open Dgt
set_option linter.unusedVariables false

theorem dec_ten {n : Nat} (h : ¬ n < 10) : Lib.decDigits n = Lib.decDigits (n / 10) ++ [UInt8.ofNat (48 + n % 10)] := by rw [Lib.decDigits, dif_neg h]
theorem dec_one {n : Nat} (h : n < 10) : Lib.decDigits n = [UInt8.ofNat (48 + n)] := by rw [Lib.decDigits, dif_pos h]
set_option maxHeartbeats 4000000 in
set_option maxRecDepth 100000 in
theorem rText_any (a : ByteArray) (w : World) (ha : a.size ≤ 1000000) :
    Calls Tryz.prog 58 #[.string a] w fun e w' => e = .returned (.string ⟨(Lib.decDigits (numS a)).toArray⟩) ∧ Below w.heap.size w w' := by
  have CA := Lib.hid (Canon_any a · (by omega))
  have hL := dec_size a
  have HAS : Hid ((encS (numS a)).size ≤ 1000000) := Lib.hid (Nat.le_trans (encS_len_le a) ha)
  obtain ⟨A, hA⟩ : ∃ A, numS a = A := ⟨_, rfl⟩
  rw [hA] at CA HAS hL ⊢
  have HL : Hid ((Lib.decDigits A).length ≤ 3000001) := Lib.hid (by omega)
  have HOT := Lib.hid (fun w => rOf_any 10 w (by decide))
  rw [show ((10 : Int)).toNat = 10 from rfl] at HOT
  clear ha hA hL
  rcases Nat.eq_zero_or_pos A with hA0 | hA0
  · subst hA0
    rw [encS_zero] at CA
    have hE : Hid (Lib.decDigits 0 = [48]) := Lib.hid (by rw [dec_one (by decide)]; rfl)
    go_enter Tryz.func58, Tryz.ntmps58
    go_wp2_with fail
    refine (CA.out _).mono ?_
    rintro e w1 ⟨rfl, rfl⟩
    go_wp2_with fail
    go_ret
    exact ⟨by rw [hE.out]; rfl, Below.refl _ _⟩
  have hpos : ∀ n : Nat, 0 < n → 0 < ((encS n).size : Int) := fun n hn => by
    have : (encS n).size ≠ 0 := fun h => by
      rw [encS_size] at h
      have := List.eq_nil_of_length_eq_zero h
      rw [digs_eq_nil (by decide)] at this; omega
    omega
  have HPOS := Lib.hid hpos
  obtain ⟨s0, hs0⟩ : ∃ s0, (encS A).size = s0 := ⟨_, rfl⟩
  have hz0 : (((encS A).size : Int) == 0) = false := by rw [beq_eq_false_iff_ne]; have := hpos A hA0; omega
  have HA0 := Lib.hid hA0
  clear hpos hA0 hs0
  go_enter Tryz.func58, Tryz.ntmps58
  go_wp2_with fail
  refine (CA.out _).mono ?_
  rintro e w1 ⟨rfl, rfl⟩
  go_wp2_with fail
  clear hz0
  go_loopw [0, 3] (fun x y wr => ∃ (n : Nat) (o : List UInt8), x = .string (encS n) ∧ y = .string ⟨o.toArray⟩ ∧ Hid ((n = 0 → o = Lib.decDigits A) ∧ (0 < n → Lib.decDigits A = Lib.decDigits n ++ o)) ∧ Hid ((encS n).size ≤ 1000000) ∧ Hid (Below w.heap.size w wr)) (fun x _ _ => strSz x)
  case atStart => exact ⟨A, [], rfl, rfl, Lib.hid ⟨fun h => by have := HA0.out; omega, fun _ => by simp⟩, HAS, Lib.hid (Below.refl _ _)⟩
  case round =>
    obtain ⟨n, o, rfl, rfl, HD, HNS, HBW⟩ := hrel
    rcases Nat.eq_zero_or_pos n with hn | hn
    · subst hn
      have HF := Lib.hid (HD.out.1 rfl)
      have hz : ¬ 0 < ((encS 0).size : Int) := by rw [encS_zero]; decide
      go_wp2_with fail
      go_ret
      exact ⟨by rw [← HF.out]; rfl, HBW.out⟩
    · have hp := HPOS.out n hn
      have hD := HD.out.2 hn
      have hol : (o.length : Int) ≤ 3000001 := by
        have h1 := congrArg List.length hD
        rw [List.length_append] at h1
        have := HL.out; omega
      have HQ := Lib.hid (fun w => rQuo_any (encS n) (encS 10) w HNS.out (by rw [show encS 10 = ⟨#[10]⟩ from by simp [encS, encL, digs_pos, digs_zero]]; decide))
      rw [numS_encS, numS_encS, show remS n 10 = n % 10 from rfl] at HQ
      obtain ⟨d, hd⟩ : ∃ d, n % 10 = d := ⟨_, rfl⟩
      rw [hd] at HQ
      have hd9 : d < 10 := by omega
      have HI := Lib.hid (fun w => rInt_any (encS d) w ((Sz.enc (k := 1) (show d < 256 ^ 1 by omega) (by decide))))
      obtain ⟨hiy, hiv⟩ := int_yes (m := d) (by omega)
      rw [numS_encS, hiv, hiy] at HI
      obtain ⟨x, hx⟩ : ∃ x, 48 + d = x := ⟨_, rfl⟩
      have f1 : 48 + (d : Int) = (x : Int) := by omega
      have hx9 : (x : Int) < 58 := by omega
      have f2 : (x : Int) % 256 = (x : Int) := by omega
      have HN' : Hid ((n / 10 = 0 → UInt8.ofNat x :: o = Lib.decDigits A) ∧ (0 < n / 10 → Lib.decDigits A = Lib.decDigits (n / 10) ++ (UInt8.ofNat x :: o))) := Lib.hid (by
        refine ⟨fun h => ?_, fun h => ?_⟩
        · rw [hD, dec_one (by omega), ← hx, ← hd, Nat.mod_eq_of_lt (by omega)]; rfl
        · rw [hD, dec_ten (by omega), ← hx, ← hd, List.append_assoc]; rfl)
      have hcv : ∀ W : World, (convert 39 9 (.slice (some ⟨W.heap.size, 0, none⟩) 1 1)).run Tryz.prog (W.alloc (.cells #[.int .u8 (x : Int)] 5)) = .ok (.string ⟨#[UInt8.ofNat x]⟩) (W.alloc (.cells #[.int .u8 (x : Int)] 5)) := fun W =>
        conv_own (l := [x]) Tryz.underlying9 (own_one W (.int .u8 (x : Int)) 5 rfl) (fun y hy => by simp at hy; subst hy; omega)
      have HLT : Hid (n / 10 < n) := Lib.hid (by omega)
      clear hn hD hd hd9 hiy hiv hx hp
      have hp := HPOS.out n (by have := HLT.out; omega)
      go_wp2_with fail
      refine (HOT.out _).mono ?_
      rintro e w2 ⟨rfl, hb⟩
      have HB2 := Lib.hid (HBW.out.trans (hb.mono HBW.out.size))
      clear hb
      go_wp2_with fail
      refine (HQ.out _).mono ?_
      rintro e w3 ⟨rfl, hb⟩
      have HB3 := Lib.hid (HB2.out.trans (hb.mono HB2.out.size))
      clear hb
      go_wp2_with fail
      refine (HI.out _).mono ?_
      rintro e w4 ⟨rfl, rfl⟩
      go_wp2_with fail
      go_roundw
      case rel => exact ⟨n / 10, UInt8.ofNat x :: o, rfl, by rw [show (⟨#[UInt8.ofNat x]⟩ : ByteArray) = ⟨[UInt8.ofNat x].toArray⟩ from rfl, str_append]; rfl, HN', Lib.hid (Nat.le_trans (by rw [encS_size, encS_size]; exact digs_len_mono (by decide) (Nat.div_le_self _ _)) HNS.out), Lib.hid (HB3.out.alloc HB3.out.size _)⟩
      case measure => simp [strSz, numS_encS]; exact HLT.out
end Go.Proofs.YtancflpioigjbaaGreatDoor
/- Parse of the reference implementation. Each theorem names its conditions. -/
namespace Go.Proofs.YtancflpioigjbaaGreatDoor
open Go.RowKit Go.Shelf
open Dgt
set_option linter.unusedVariables false

theorem ok_cons {c : UInt8} {r : List UInt8} (h : r = [] ∨ c ≠ 48) : okP (c :: r) = (c :: r).all dB := by
  have h1 : (decide (1 < (c :: r).length) && ((c :: r).headD 0 == 48)) = false := by
    rcases h with rfl | h
    · rfl
    · simp [h]
  simp only [okP, h1, List.isEmpty_cons, Bool.not_false, Bool.true_and]
theorem decV_snoc (l : List UInt8) (c : UInt8) : decV (l ++ [c]) = decV l * 10 + (c.toNat - 48) := by
  rw [decV, decF_append, decF_cons, decF_nil]; rfl
theorem decV_size {l : List UInt8} (h : l.all dB = true) : Sz (decV l) l.length := Nat.lt_of_lt_of_le (decF_lt l h) (Nat.pow_le_pow_left (by decide) _)
def EPR (S : ByteArray) (A k x d : Nat) : Nat → Value
  | 0 => .string (encS A)
  | 1 => .string (encS 10)
  | 2 => .string (encS (A * 10))
  | 3 => .string S
  | 4 => .int .i64 (k : Int)
  | 5 => .int .u8 (x : Int)
  | 6 => .int .u8 (d : Int)
  | 7 => .int .i64 (d : Int)
  | 8 => .string (encS d)
  | 9 => .string (encS (A * 10 + d))
  | 10 => .string (encS (A * 10 + d))
  | _ => undef
def SPR (S : ByteArray) (A k x d : Nat) (ix : Nat) (v : Value) (w : World) : Prop :=
  match ix with
  | ix => v = EPR S A k x d ix
theorem SPR_up (S : ByteArray) (A k x d : Nat) (ix : Nat) (v : Value) (w w' : World) (hb : Below w.heap.size w w') (h : SPR S A k x d ix v w) : SPR S A k x d ix v w' := by
  exact h
set_option maxHeartbeats 4000000 in
set_option maxRecDepth 100000 in
theorem rParse_any (s : ByteArray) (w : World) (hs : s.size ≤ 100000) :
    Calls Tryz.prog 63 #[.string s] w fun e w' => e = .returned (.tuple #[.string (encS (parV s)), .bool (parB s)]) ∧ Below w.heap.size w w' := by
  obtain ⟨l, rfl⟩ : ∃ l : List UInt8, s = ⟨l.toArray⟩ := ⟨s.data.toList, by simp⟩
  have hdl : (⟨l.toArray⟩ : ByteArray).data.toList = l := by simp
  have HOK := Lib.hid (show parB ⟨l.toArray⟩ = okP l from by unfold parB; rw [hdl])
  have HPV := Lib.hid (show parV ⟨l.toArray⟩ = if okP l = true then decV l else 0 from by unfold parV; rw [hdl])
  clear hdl
  rcases l with _ | ⟨c, r⟩
  · have hE1 : Hid (parV ⟨([] : List UInt8).toArray⟩ = 0) := Lib.hid (by rw [HPV.out]; rfl)
    have hE2 : Hid (parB ⟨([] : List UInt8).toArray⟩ = false) := Lib.hid (by rw [HOK.out]; rfl)
    clear hs
    go_enter Tryz.func63, Tryz.ntmps63
    go_wp2_with fail
    go_ret2
    exact ⟨by rw [hE1.out, hE2.out, encS_zero]; rfl, Below.refl _ _⟩
  · obtain ⟨l, hl⟩ : ∃ l, c :: r = l := ⟨_, rfl⟩
    obtain ⟨S, hS⟩ : ∃ S : ByteArray, S = ⟨l.toArray⟩ := ⟨_, rfl⟩
    have hsz : S.size = l.length := by rw [hS]; rfl
    rw [hl, ← hS] at HOK HPV hs ⊢
    obtain ⟨n, hn⟩ : ∃ n : Nat, S.size = n := ⟨_, rfl⟩
    have hl1 : l.length = r.length + 1 := by rw [← hl]; rfl
    have hl0 : 0 < S.size := by omega
    have hget : S[0]'hl0 = c := by subst hS; subst hl; rfl
    have hnb : ((S.size : Int) == 0) = false := by rw [beq_eq_false_iff_ne]; omega
    obtain ⟨bA, hbA⟩ : ∃ bA : Bool, decide (1 < (S.size : Int)) = bA := ⟨_, rfl⟩
    obtain ⟨bB, hbB⟩ : ∃ bB : Bool, ((((S[0]'hl0).toNat : Nat) : Int) == 48) = bB := ⟨_, rfl⟩
    obtain ⟨bC, hbC⟩ : ∃ bC : Bool, (bA && bB) = bC := ⟨_, rfl⟩
    have HOKL : Hid (okP l = (!bC && l.all dB)) := Lib.hid (by
      rw [← hbC, ← hbA, ← hbB, ← hl]
      by_cases h1 : c = 48
      · subst h1
        have e1 : ((((S[0]'hl0).toNat : Nat) : Int) == 48) = true := by rw [hget]; rfl
        rw [e1]
        by_cases h2 : 1 < (S.size : Int)
        · rw [decide_eq_true h2]
          have h3 : decide (1 < ((48 : UInt8) :: r).length) = true := by rw [decide_eq_true_eq]; show 1 < r.length + 1; omega
          simp only [okP, h3]; rfl
        · rw [decide_eq_false h2]
          have h3 : r = [] := List.eq_nil_of_length_eq_zero (by omega)
          rw [ok_cons (.inl h3)]; rfl
      · have e1 : ((((S[0]'hl0).toNat : Nat) : Int) == 48) = false := by
          rw [hget, beq_eq_false_iff_ne]
          intro h
          exact h1 (UInt8.toNat_inj.1 (by show c.toNat = 48; omega))
        rw [e1, Bool.and_false, ok_cons (.inr h1)]; rfl)
    have HSL : Hid (S.size = l.length ∧ l.length = n ∧ n ≤ 100000) := Lib.hid (by omega)
    have HS := Lib.hid hS
    have hn9 : (S.size : Int) ≤ 100000 := by omega
    have HN := Lib.hid hn
    clear hl hS hsz hs hl1 hget hn
    cases bC
    · have HOKL : Hid (okP l = l.all dB) := Lib.hid (by rw [HOKL.out]; rfl)
      go_enter Tryz.func63, Tryz.ntmps63
      cases bA <;> cases bB
      all_goals first | cases hbC | skip
      all_goals
        go_wp2_with fail
        go_loopw [4, 5] (fun v kv wr => ∃ (k : Nat), v = .string (encS (decV (l.take k))) ∧ kv = .int .i64 (k : Int) ∧ Hid ((l.take k).all dB = true) ∧ Hid (k ≤ n) ∧ Hid (Below w.heap.size w wr)) (fun _ kv _ => n - (intOf kv).toNat)
        case atStart => exact ⟨0, by rw [List.take_zero]; show _ = Value.string (encS 0); rw [encS_zero], rfl, Lib.hid (by rw [List.take_zero]; rfl), Lib.hid (Nat.zero_le _), Lib.hid (Below.refl _ _)⟩
        case round =>
          obtain ⟨k, rfl, rfl, HAL, HK, HB⟩ := hrel
          obtain ⟨A, hA⟩ : ∃ A, decV (l.take k) = A := ⟨_, rfl⟩
          rw [hA]
          have HA := Lib.hid hA
          clear hA
          have hk' := HK.out
          by_cases hk : k < n
          · have hkS : k < S.size := by rw [HN.out]; exact hk
            have hkl : k < l.length := by have := HSL.out; omega
            obtain ⟨x, hx⟩ : ∃ x, (S[k]'hkS).toNat = x := ⟨_, rfl⟩
            have hgk : S[k]'hkS = l[k]'hkl := by have h := HS.out; subst h; rfl
            have hkd : decide ((k : Int) < (S.size : Int)) = true := by rw [decide_eq_true_eq]; omega
            have HTK : Hid (l.take (k + 1) = l.take k ++ [S[k]'hkS]) := Lib.hid (by rw [hgk]; exact List.take_succ_eq_append_getElem hkl)
            have HX := Lib.hid hx
            have hxb : (x : Int) < 256 := by have := (S[k]'hkS).toNat_lt; omega
            clear hgk hk hk'
            have hnd : ∀ h : dB (S[k]'hkS) = false, okP l = false := fun h => by
              rw [HOKL.out, ← List.take_append_drop (k + 1) l, HTK.out, List.all_append, List.all_append, List.all_cons, h]; simp
            have HND := Lib.hid hnd
            clear hnd
            by_cases h1 : x < 48
            · have hE0 := HND.out (by simp [dB, HX.out]; omega)
              have hE1 : Hid (parV S = 0) := Lib.hid (by rw [HPV.out, hE0]; rfl)
              have hE2 : Hid (parB S = false) := Lib.hid (by rw [HOK.out, hE0])
              have h1' : decide ((x : Int) < 48) = true := by rw [decide_eq_true_eq]; omega
              clear h1 hE0
              go_wp2_with fail
              go_ret2
              exact ⟨by rw [hE1.out, hE2.out, encS_zero]; rfl, HB.out⟩
            · have h1' : decide ((x : Int) < 48) = false := by rw [decide_eq_false_iff_not]; omega
              by_cases h2 : 57 < x
              · have hE0 := HND.out (by simp [dB, HX.out]; omega)
                have hE1 : Hid (parV S = 0) := Lib.hid (by rw [HPV.out, hE0]; rfl)
                have hE2 : Hid (parB S = false) := Lib.hid (by rw [HOK.out, hE0])
                have h2' : decide (57 < (x : Int)) = true := by rw [decide_eq_true_eq]; omega
                clear h1 h2 hE0
                go_wp2_with fail
                go_ret2
                exact ⟨by rw [hE1.out, hE2.out, encS_zero]; rfl, HB.out⟩
              · have h2' : decide (57 < (x : Int)) = false := by rw [decide_eq_false_iff_not]; omega
                obtain ⟨d, hd⟩ : ∃ d, x - 48 = d := ⟨_, rfl⟩
                have hxd : x = d + 48 := by omega
                have hd9 : d ≤ 9 := by omega
                have HAL2 : Hid ((l.take (k + 1)).all dB = true) := Lib.hid (by
                  rw [HTK.out, List.all_append, HAL.out, List.all_cons]
                  have : dB (S[k]'hkS) = true := by simp only [dB, HX.out, decide_eq_true_eq]; omega
                  rw [this]; rfl)
                have HA2 : Hid (decV (l.take (k + 1)) = A * 10 + d) := Lib.hid (by rw [HTK.out, decV_snoc, HA.out, HX.out, hd])
                have HKL : Hid (k < 100000 ∧ k < n) := Lib.hid (by have := HSL.out; have := HN.out; omega)
                have hsA : Sz A 100000 := by rw [← HA.out]; exact (decV_size HAL.out).mono (by rw [List.length_take]; have := HKL.out; omega)
                have hs1 : (encS A).size ≤ 1000000 := Nat.le_trans (encS_size_lt hsA) (by decide)
                have hs2 : (encS (A * 10)).size ≤ 1000000 := Nat.le_trans (encS_size_lt (hsA.mul (show Sz 10 1 by unfold Sz; decide))) (by decide)
                have HS1 := Lib.hid hs1; have HS2 := Lib.hid hs2
                have HXD := Lib.hid hxd; have HD9 := Lib.hid hd9
                clear hd hs1 hs2 hsA h1 h2 hxd hd9
                go_wp2_with fail
                have ht0 : (encS 10).size ≤ 1000000 := Nat.le_trans (encS_size_lt (k := 1) (by unfold Sz; decide)) (by decide)
                have hs1 := HS1.out
                have hs2 := HS2.out
                have hs3 : (encS d).size ≤ 1000000 := Nat.le_trans (encS_size_lt (k := 1) (by unfold Sz; have := HD9.out; omega)) (by decide)
                refine wp_region_vals (w := wr) (by kernel_rfl) (SPR S A k x d) (fun t => (decide (4 ≤ t) && decide (t < 5)) || (decide (35 ≤ t) && decide (t < 45))) (by kernel_rfl) (by kernel_rfl) (by kernel_rfl) (SPR_up S A k x d) ?_ ?_
                · intro i hi o listed a w hR K hK
                  have ho := hR.at_
                  have hi : i < 11 := hi
                  have hii : i = 0 ∨ i = 1 ∨ i = 2 ∨ i = 3 ∨ i = 4 ∨ i = 5 ∨ i = 6 ∨ i = 7 ∨ i = 8 ∨ i = 9 ∨ i = 10 := by omega
                  rcases hii with rfl | rfl | rfl | rfl | rfl | rfl | rfl | rfl | rfl | rfl | rfl
                  · simp at ho
                    subst ho
                    have b4 : a.tmps.getD 4 undef = .string (encS A) := hR.early (j := 10) (by kernel_rfl) rfl ⟨0, .phase⟩ (by simp) rfl rfl
                    refine plain_step rfl rfl ?_
                    go_simp
                    exact hK _ _ (rfl) (Below.refl _ _)
                  · simp at ho
                    subst ho
                    refine plain_step rfl rfl ?_
                    go_simp
                    refine (rOf_any 10 _ (by decide)).mono ?_
                    rintro r w2 ⟨rfl, hb⟩
                    exact hK _ _ (rfl) hb
                  · simp at ho
                    subst ho
                    have e0 : a.tmps.getD 35 undef = .string (encS A) := hR.dep ⟨0, .data⟩ (by simp) rfl
                    have e1 : a.tmps.getD 36 undef = .string (encS 10) := hR.dep ⟨1, .data⟩ (by simp) rfl
                    refine plain_step rfl rfl ?_
                    go_simp
                    refine (rMul_any _ _ _ hs1 ht0).mono ?_
                    rintro r w2 ⟨rfl, hb⟩
                    rw [numS_encS, numS_encS]
                    exact hK _ _ (rfl) hb
                  · simp at ho
                    subst ho
                    have b0 : a.tmps.getD 0 undef = .string S := hR.base 0 (by kernel_rfl)
                    refine plain_step rfl rfl ?_
                    go_simp
                    exact hK _ _ (rfl) (Below.refl _ _)
                  · simp at ho
                    subst ho
                    have b5 : a.tmps.getD 5 undef = .int .i64 (k : Int) := hR.base 5 (by kernel_rfl)
                    refine plain_step rfl rfl ?_
                    go_simp
                    exact hK _ _ (rfl) (Below.refl _ _)
                  · simp at ho
                    subst ho
                    have e3 : a.tmps.getD 38 undef = .string S := hR.dep ⟨3, .data⟩ (by simp) rfl
                    have e4 : a.tmps.getD 39 undef = .int .i64 (k : Int) := hR.dep ⟨4, .data⟩ (by simp) rfl
                    have hx := HX.out
                    refine plain_step rfl rfl ?_
                    go_simp
                    exact hK _ _ (rfl) (Below.refl _ _)
                  · simp at ho
                    subst ho
                    have e5 : a.tmps.getD 40 undef = .int .u8 (x : Int) := hR.dep ⟨5, .data⟩ (by simp) rfl
                    have q1 : IntKind.u8.wrap ((x : Int) - 48) = (d : Int) := by have := HXD.out; have := HD9.out; rw [IntKind.wrap_u8']; omega
                    refine plain_step rfl rfl ?_
                    go_simp
                    exact hK _ _ (rfl) (Below.refl _ _)
                  · simp at ho
                    subst ho
                    have e6 : a.tmps.getD 41 undef = .int .u8 (d : Int) := hR.dep ⟨6, .data⟩ (by simp) rfl
                    have q2 : IntKind.i64.wrap (d : Int) = (d : Int) := by have := HD9.out; exact IntWalk.i64_in _ (by omega)
                    refine plain_step rfl rfl ?_
                    go_simp
                    exact hK _ _ (rfl) (Below.refl _ _)
                  · simp at ho
                    subst ho
                    have e7 : a.tmps.getD 42 undef = .int .i64 (d : Int) := hR.dep ⟨7, .data⟩ (by simp) rfl
                    refine plain_step rfl rfl ?_
                    go_simp
                    refine (rOf_any (d : Int) _ (by have := HD9.out; omega)).mono ?_
                    rintro r w2 ⟨rfl, hb⟩
                    rw [Int.toNat_natCast]
                    exact hK _ _ (rfl) hb
                  · simp at ho
                    subst ho
                    have e2 : a.tmps.getD 37 undef = .string (encS (A * 10)) := hR.dep ⟨2, .data⟩ (by simp) rfl
                    have e8 : a.tmps.getD 43 undef = .string (encS d) := hR.dep ⟨8, .data⟩ (by simp) rfl
                    refine plain_step rfl rfl ?_
                    go_simp
                    refine (rAdd_any _ _ _ hs2 hs3).mono ?_
                    rintro r w2 ⟨rfl, hb⟩
                    rw [numS_encS, numS_encS]
                    exact hK _ _ (rfl) hb
                  · simp at ho
                    subst ho
                    have e9 : a.tmps.getD 44 undef = .string (encS (A * 10 + d)) := hR.dep ⟨9, .data⟩ (by simp) rfl
                    refine plain_step rfl rfl ?_
                    go_simp
                    exact hK _ _ (rfl) (Below.refl _ _)
                · intro s w hS hb
                  have e10 : s 4 = .string (encS (A * 10 + d)) := hS 10 (by decide)
                  simp only [over, Nat.zero_add, Nat.reduceAdd, Nat.reduceLeDiff, Nat.reduceLT, decide_true, decide_false, Bool.and_true, Bool.and_false, Bool.or_false, Bool.or_true, cond_true, cond_false]
                  have HB2 := Lib.hid (HB.out.trans (hb.mono HB.out.size))
                  clear hb hS
                  have hkd := HKL.out.2
                  clear hs1 hs2 hs3 ht0
                  go_wp2_with fail
                  go_roundw
                  case rel => exact ⟨k + 1, by rw [HA2.out]; exact e10, by go_num, HAL2, Lib.hid (by have := HKL.out; omega), HB2⟩
                  case measure => have := HKL.out; simp [intOf]; omega
          · have hkn : k = n := by omega
            subst hkn
            have hkd : decide ((k : Int) < (S.size : Int)) = false := by rw [decide_eq_false_iff_not, HN.out]; omega
            have hkd2 : decide (k < S.size) = false := by rw [decide_eq_false_iff_not, HN.out]; omega
            have hkd3 : ¬ k < S.size := by rw [HN.out]; omega
            have hTL : l.take k = l := List.take_of_length_le (by have := HSL.out; omega)
            have hE0 : okP l = true := by rw [HOKL.out, ← hTL]; exact HAL.out
            have hE1 : Hid (parV S = A) := Lib.hid (by rw [HPV.out, hE0, ← HA.out, hTL]; rfl)
            have hE2 : Hid (parB S = true) := Lib.hid (by rw [HOK.out, hE0])
            clear hk hk' hTL hE0
            go_wp2_with fail
            go_ret2
            exact ⟨by rw [hE1.out, hE2.out]; rfl, HB.out⟩
    · have hE1 : Hid (parV S = 0) := Lib.hid (by rw [HPV.out, HOKL.out]; rfl)
      have hE2 : Hid (parB S = false) := Lib.hid (by rw [HOK.out, HOKL.out]; rfl)
      cases bA <;> cases bB
      all_goals first | cases hbC | skip
      go_enter Tryz.func63, Tryz.ntmps63
      go_wp2_with fail
      go_ret2
      exact ⟨by rw [hE1.out, hE2.out, encS_zero]; rfl, Below.refl _ _⟩
end Go.Proofs.YtancflpioigjbaaGreatDoor
