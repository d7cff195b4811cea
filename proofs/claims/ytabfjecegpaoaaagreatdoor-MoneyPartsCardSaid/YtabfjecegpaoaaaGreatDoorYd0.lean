/- Contracts that the proofs of this seat share. Each theorem names its conditions. -/
import Derived.Lib.IndexMore
import Derived.Test.YtabfjecegpaoaaaGreatDoorYc8
namespace Go.Proofs.YtabfjecegpaoaaaGreatDoor
open Go.RowKit Go.Shelf
open Dgt
set_option linter.unusedVariables false
theorem parV_sz (s : ByteArray) : Sz (parV s) s.size := by
 unfold parV Sz
 split
 ·rename_i h
  unfold okP at h;simp only [Bool.and_eq_true] at h;have h1 := decF_lt s.data.toList h.2;exact Nat.lt_of_lt_of_le h1 (by
   have : s.data.toList.length = s.size := by rw [Array.length_toList]; rfl
   rw [this]; exact Nat.pow_le_pow_left (by decide) _)
 ·exact Nat.pow_pos (by decide)
end Go.Proofs.YtabfjecegpaoaaaGreatDoor
