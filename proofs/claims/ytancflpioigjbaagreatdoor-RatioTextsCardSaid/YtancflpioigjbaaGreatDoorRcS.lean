/- Plain: a number's text is read again; the walks of Parse and Text on any bytes. -/
import Derived.Test.YtancflpioigjbaaGreatDoorRaH
namespace Go.Proofs.YtancflpioigjbaaGreatDoor
open Go.RowKit Go.Shelf
open Dgt
set_option linter.unusedVariables false

theorem dec_digit {n : Nat} {c : UInt8} (h : c ∈ Lib.decDigits n) : c ≠ 47 ∧ c ≠ 45 := by
  have h1 := List.all_eq_true.1 (dec_spec n).1 c h
  unfold dB at h1
  constructor
  · rintro rfl; revert h1; decide
  · rintro rfl; revert h1; decide
theorem dec_pos (n : Nat) : 0 < (Lib.decDigits n).length := List.length_pos_iff.2 (dec_spec n).2.2.2
theorem hasMinus_dec (n : Nat) (r : List UInt8) : Lib.hasPrefix (Lib.decDigits n ++ r) [45] = false := by
  unfold Lib.hasPrefix
  cases h : Lib.decDigits n with
  | nil => have := dec_pos n; rw [h] at this; simp at this
  | cons c l =>
    have hc := (dec_digit (n := n) (c := c) (by rw [h]; simp)).2
    simp [List.isPrefixOf, Ne.symm hc]
/-- the text without its sign -/
def textB (a : Rt) : List UInt8 := Lib.decDigits a.num ++ (if a.den = 1 then [] else 47 :: Lib.decDigits a.den)
theorem textL_eq (a : Rt) : textL a = (if a.neg then [45] else []) ++ textB a := rfl
theorem parN_text (a : Rt) : parN (textL a) = a.neg := by
  unfold parN; rw [textL_eq]
  cases h : a.neg
  · exact hasMinus_dec _ _
  · simp [Lib.hasPrefix, List.isPrefixOf]
theorem parR_text (a : Rt) : parR (textL a) = textB a := by
  unfold parR Lib.trimPrefix
  have h := parN_text a
  unfold parN at h
  rw [h, textL_eq]
  cases a.neg <;> simp
theorem dec_get {n j : Nat} (h : j < (Lib.decDigits n).length) : (Lib.decDigits n)[j] ≠ 47 := (dec_digit (List.getElem_mem h)).1
theorem cut_text (a : Rt) : Lib.cut (textB a) [47] = if a.den = 1 then (Lib.decDigits a.num, [], false) else (Lib.decDigits a.num, Lib.decDigits a.den, true) := by
  unfold textB
  by_cases h : a.den = 1
  · rw [if_pos h, if_pos h, List.append_nil]
    unfold Lib.cut
    rw [cut_never (fun j hj => dec_get hj)]; rfl
  · rw [if_neg h, if_neg h]
    have hi : Lib.index (Lib.decDigits a.num ++ 47 :: Lib.decDigits a.den) [47] = ((Lib.decDigits a.num).length : Int) :=
      cut_at (by simp) (by simp) (fun j hj => by rw [List.getElem_append_left hj]; exact dec_get hj)
    unfold Lib.cut
    rw [hi, if_pos (by omega)]
    simp
theorem parA_text (a : Rt) : parA (textL a) = Lib.decDigits a.num := by
  unfold parA; rw [parR_text, cut_text]; split <;> rfl
theorem dec_one1 : Lib.decDigits 1 = [49] := by simp [Lib.decDigits]
theorem parD_text (a : Rt) : parD (textL a) = Lib.decDigits a.den := by
  unfold parD; rw [parR_text, cut_text]
  by_cases h : a.den = 1
  · rw [if_pos h, h, dec_one1]; rfl
  · rw [if_neg h]; rfl
theorem parL_text {a : Rt} (h : a.Ok) : parL (textL a) = a := by
  unfold parL
  rw [parN_text, parA_text, parD_text, parV_dec, parV_dec, low_self h]
theorem parO_text {a : Rt} (h : a.Ok) : parO (textL a) = true := by
  unfold parO
  rw [parL_text h, parA_text, parD_text, parB_dec, parB_dec, parV_dec]
  simp [h.pos, textS]
theorem parse_text {a : Rt} (h : a.Ok) : parseV (textL a) = .tuple #[rtV a, .bool true] := by
  unfold parseV; rw [if_pos (parO_text h), parL_text h]
theorem textL_pos (a : Rt) : 0 < (textL a).length := by
  rw [textL_eq, List.length_append]
  have := dec_pos a.num
  unfold textB
  rw [List.length_append]; omega
theorem bytes_list (s : ByteArray) : (⟨s.data.toList.toArray⟩ : ByteArray) = s := by cases s; simp
theorem RatParse_b (s : ByteArray) (wq : World) (hl : s.size ≤ 1000) (htab : Lib.TabIs Tryz.prog wq "internal/strconv.uint64pow10" .u64 Lib.pow10Tab) (m0 : Int) (hm : wq.cell? ⟨0, 0, none⟩ = some (.int .i64 m0)) :
    Calls Tryz.prog 21 #[.string s] wq fun e w' => e = .returned (parseV s.data.toList) ∧ Below wq.heap.size wq w' := by
  have h := RatParse_any s.data.toList wq (by rw [← Lib.size_eq]; exact hl) htab m0 hm
  rwa [bytes_list] at h
theorem rRatParse_b (s : ByteArray) (wq : World) (hl : s.size ≤ 1000) :
    Calls Tryz.prog 22 #[.string s] wq fun e w' => e = .returned (parseV s.data.toList) ∧ Below wq.heap.size wq w' := by
  have h := rRatParse_any s.data.toList wq (by rw [← Lib.size_eq]; exact hl)
  rwa [bytes_list] at h
theorem parse_parts (l : List UInt8) : ∃ n s d u, parseV l = .tuple #[.agg #[.bool n, .string s, .string d], .bool u] := by
  unfold parseV; split <;> exact ⟨_, _, _, _, rfl⟩
theorem conv_one (W : World) (g : Nat) (b : Int) (t : TypeId) (h0 : 0 ≤ b) (h1 : b ≤ 255) (hg : W.heap[g]? = some (.cells #[.int .u8 b] t (0, 0))) (cap : Nat) :
    (convert 39 9 (.slice (some ⟨g, 0, none⟩) 1 cap)).run Tryz.prog W = .ok (.string ⟨#[UInt8.ofNat b.toNat]⟩) W := by
  refine run_convert_bytes_back W _ _ 5 ⟨g, 0, none⟩ cap [UInt8.ofNat b.toNat] Tryz.underlying39 Tryz.underlying5 Tryz.underlying9 fun j hj => ?_
  have : j = 0 := by simpa using hj
  subst this
  have e : (UInt8.ofNat b.toNat).toNat = b.toNat := by rw [UInt8.toNat_ofNat']; omega
  simp only [List.getElem_cons_zero, e]
  rw [show (⟨g, 0, none⟩ : Addr).add 0 = ⟨g, 0, none⟩ by simp [Addr.add], Lib.cell_of_heap hg]
  simp; omega
end Go.Proofs.YtancflpioigjbaaGreatDoor
