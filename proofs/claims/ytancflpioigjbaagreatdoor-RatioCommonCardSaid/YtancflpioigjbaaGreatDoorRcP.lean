/- Plain: what Parse reads; where a text is cut. No program in sight. -/
import Derived.Test.YtancflpioigjbaaGreatDoorRcB
import Derived.Lib.IndexMore
namespace Go.Proofs.YtancflpioigjbaaGreatDoor
open Go.RowKit Go.Shelf
open Dgt
set_option linter.unusedVariables false

theorem cut_at : ∀ {l : List UInt8} {i : Nat} (hi : i < l.length), l[i] = 47 → (∀ j (h : j < i), l[j]'(by omega) ≠ 47) → Lib.index l [47] = (i : Int)
  | [], i, hi, _, _ => absurd hi (by simp)
  | c :: l, 0, _, h, _ => by
    have : c = 47 := h
    subst this
    rfl
  | c :: l, i + 1, hi, h, hn => by
    have hc : c ≠ 47 := hn 0 (by omega)
    have ih := cut_at (l := l) (i := i) (by simpa using hi) h (fun j hj => hn (j + 1) (by omega))
    have hp : ([47] : List UInt8).isPrefixOf (c :: l) = false := by
      simp [List.isPrefixOf, Ne.symm hc]
    show (if ([47] : List UInt8).isPrefixOf (c :: l) then (0 : Int) else if Lib.index l [47] == -1 then -1 else Lib.index l [47] + 1) = _
    rw [hp, ih]
    have : ((i : Int) == -1) = false := by simp
    rw [this]; simp
theorem cut_never : ∀ {l : List UInt8}, (∀ j (h : j < l.length), l[j] ≠ 47) → Lib.index l [47] = -1
  | [], _ => rfl
  | c :: l, hn => by
    have hc : c ≠ 47 := hn 0 (by simp)
    have ih := cut_never (l := l) (fun j hj => hn (j + 1) (by simpa using hj))
    have hp : ([47] : List UInt8).isPrefixOf (c :: l) = false := by
      simp [List.isPrefixOf, Ne.symm hc]
    show (if ([47] : List UInt8).isPrefixOf (c :: l) then (0 : Int) else if Lib.index l [47] == -1 then -1 else Lib.index l [47] + 1) = _
    rw [hp, ih]; rfl
def parN (l : List UInt8) : Bool := Lib.hasPrefix l [45]
def parR (l : List UInt8) : List UInt8 := Lib.trimPrefix l [45]
def parA (l : List UInt8) : List UInt8 := (Lib.cut (parR l) [47]).1
def parD (l : List UInt8) : List UInt8 := if (Lib.cut (parR l) [47]).2.2 then (Lib.cut (parR l) [47]).2.1 else [49]
def parL (l : List UInt8) : Rt := low (parN l) (parV ⟨(parA l).toArray⟩) (parV ⟨(parD l).toArray⟩)
def parO (l : List UInt8) : Bool := parB ⟨(parA l).toArray⟩ && parB ⟨(parD l).toArray⟩ && decide (0 < parV ⟨(parD l).toArray⟩) && decide (textS (parL l) = ⟨l.toArray⟩)
/-- what Parse hands back -/
def parseV (l : List UInt8) : Value := if parO l then .tuple #[rtV (parL l), .bool true] else .tuple #[.agg #[.bool false, .string ⟨#[]⟩, .string ⟨#[]⟩], .bool false]
theorem parR_len (l : List UInt8) : (parR l).length ≤ l.length := by
  unfold parR Lib.trimPrefix; split
  · rw [List.length_drop]; omega
  · omega
theorem parA_len (l : List UInt8) : (parA l).length ≤ l.length := by
  have h := parR_len l
  unfold parA Lib.cut; split
  · show (List.take _ _).length ≤ _; rw [List.length_take]; omega
  · exact h
theorem parD_len (l : List UInt8) : (parD l).length ≤ l.length + 1 := by
  have h := parR_len l
  unfold parD; split
  · unfold Lib.cut; split
    · show (List.drop _ _).length ≤ _; rw [List.length_drop]; omega
    · show ([] : List UInt8).length ≤ _; simp
  · simp
theorem parV_sz (s : ByteArray) : Sz (parV s) s.size := by
  unfold parV Sz
  split
  · rename_i h
    unfold okP at h
    simp only [Bool.and_eq_true] at h
    have h1 := decF_lt s.data.toList h.2
    exact Nat.lt_of_lt_of_le h1 (by
      have : s.data.toList.length = s.size := by rw [Array.length_toList]; rfl
      rw [this]; exact Nat.pow_le_pow_left (by decide) _)
  · exact Nat.pow_pos (by decide)
end Go.Proofs.YtancflpioigjbaaGreatDoor
