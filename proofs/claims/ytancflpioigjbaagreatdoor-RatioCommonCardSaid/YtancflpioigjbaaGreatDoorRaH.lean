/- Comparisons of numbers in a walk; sums of two and three. No program in sight, but the lists' form. -/
import Derived.Test.YtancflpioigjbaaGreatDoorRdE
import Derived.Test.YtancflpioigjbaaGreatDoorRatQ
namespace Go.Proofs.YtancflpioigjbaaGreatDoor
open Go.RowKit Go.Shelf
open Dgt
set_option linter.unusedVariables false

theorem neq3 {x y z : Prop} [Decidable x] [Decidable y] [Decidable z] (w : World) :
    (if x then if y then if z then Result.ok (Next.value (Value.bool false)) w else Result.ok (Next.value (Value.bool true)) w else Result.ok (Next.value (Value.bool true)) w else Result.ok (Next.value (Value.bool true)) w) = Result.ok (Next.value (Value.bool (!(decide x && (decide y && decide z))))) w := by
  by_cases hx : x <;> by_cases hy : y <;> by_cases hz : z <;> simp [hx, hy, hz]
/-- whether two numbers are the same -/
def eqR (a b : Rt) : Bool := (a.neg == b.neg) && ((a.num == b.num) && (a.den == b.den))
theorem eqR_iff {a b : Rt} : eqR a b = true ↔ a = b := by
  unfold eqR
  simp only [Bool.and_eq_true, beq_iff_eq]
  exact ⟨fun h => Rt.ext' h.1 h.2.1 h.2.2, fun h => by subst h; exact ⟨rfl, rfl, rfl⟩⟩
theorem eqR_false {a b : Rt} : eqR a b = false ↔ a ≠ b := by
  rw [← Bool.not_eq_true, eqR_iff]
theorem encL_iff {m n : Nat} : (encS m).toList = (encS n).toList ↔ m = n := ⟨fun h => encS_inj (bytes_ext.1 h), fun h => by rw [h]⟩
theorem row_dec (a b : Rt) : (decide (a.neg = b.neg) && (decide ((encS a.num).toList = (encS b.num).toList) && decide ((encS a.den).toList = (encS b.den).toList))) = eqR a b := by
  unfold eqR
  congr 1
  congr 1
  · by_cases h : a.num = b.num
    · simp [h]
    · simp [h, encL_iff]
  · by_cases h : a.den = b.den
    · simp [h]
    · simp [h, encL_iff]
theorem szl3 {a b c : Rt} {k : Nat} (ha : Rz a k) (hb : Rz b k) (hc : Rz c k) (hk : k ≤ 1000) : SzL [rawR a, rawR b, rawR c] 1000 := by
  intro r hr
  simp only [List.mem_cons, List.not_mem_nil, or_false] at hr
  rcases hr with rfl | rfl | rfl
  · exact rawR_sz (ha.mono hk)
  · exact rawR_sz (hb.mono hk)
  · exact rawR_sz (hc.mono hk)
theorem sum3 {a b c : Rt} (ha : a.Ok) (hb : b.Ok) (hc : c.Ok) : sumL [rawR a, rawR b, rawR c] zeroR = addR (addR a b) c := by
  simp only [sumL, List.foldl_cons, List.foldl_nil, rawR_val ha, rawR_val hb, rawR_val hc]
  rw [zero_addR ha]
theorem quo_parts {a b : Rt} (ha : a.Ok) (hb : b.Ok) {qn : Bool} {qs qd : ByteArray} {qu : Bool} (h : quoV a b = .tuple #[.agg #[.bool qn, .string qs, .string qd], .bool qu]) :
    qu = !eqR b zeroR ∧ (qu = true → qn = (quoR a b).neg ∧ qs = encS (quoR a b).num ∧ qd = encS (quoR a b).den ∧ b.num ≠ 0) := by
  unfold quoV at h
  by_cases h0 : b.num = 0
  · rw [if_pos h0] at h
    simp only [Value.tuple.injEq, Array.mk.injEq, List.cons.injEq, Value.agg.injEq, Value.bool.injEq, Value.string.injEq, and_true] at h
    obtain ⟨-, rfl⟩ := h
    refine ⟨?_, fun e => by cases e⟩
    rw [(eqR_iff.2 ((num_zero_iff hb).1 h0))]; rfl
  · rw [if_neg h0] at h
    unfold rtV at h
    simp only [Value.tuple.injEq, Array.mk.injEq, List.cons.injEq, Value.agg.injEq, Value.bool.injEq, Value.string.injEq, and_true] at h
    obtain ⟨⟨rfl, rfl, rfl⟩, rfl⟩ := h
    refine ⟨?_, fun _ => ⟨rfl, rfl, rfl, h0⟩⟩
    rw [eqR_false.2 (fun e => h0 ((num_zero_iff hb).2 e))]; rfl
end Go.Proofs.YtancflpioigjbaaGreatDoor
