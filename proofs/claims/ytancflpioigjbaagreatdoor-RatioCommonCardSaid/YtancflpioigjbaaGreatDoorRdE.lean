/- The examples that each property contains. Each theorem names its conditions. -/
import Derived.Test.YtancflpioigjbaaGreatDoorRdD
import Derived.Test.YtancflpioigjbaaGreatDoorRcQ
import Derived.Test.YtancflpioigjbaaGreatDoorRcR
namespace Go.Proofs.YtancflpioigjbaaGreatDoor
open Go.RowKit Go.Shelf
open Dgt
set_option linter.unusedVariables false

theorem lit_lstR {W : World} {g cap : Nat} {l : List Rw} {t : TypeId} (h : W.heap[g]? = some (.cells (cells3 l).toArray t (0, 0))) (hl : l.length ≤ 1000) (hc : cap = l.length) : LstR W (.slice (some ⟨g, 0, none⟩) l.length cap) l := by
  refine own_lstR (base := g) (e := t) ⟨cells3_len l, .inr ⟨g, cap, _, rfl, Nat.le_refl _, h, by omega, by unfold maxLen; omega, by rw [List.size_toArray, cells3_len, hc], ?_⟩⟩ hl
  show (cells3 l).take _ = _
  rw [← cells3_len, List.take_of_length_le (Nat.le_refl _)]
theorem lit_lstN {W : World} {g cap : Nat} {l : List Nat} {t : TypeId} (h : W.heap[g]? = some (.cells (namesN l).toArray t (0, 0))) (hl : l.length ≤ 1000) (hc : cap = l.length) : LstN W (.slice (some ⟨g, 0, none⟩) l.length cap) l := by
  have hn : (namesN l).length = l.length := by simp [namesN]
  refine own_lstN (base := g) (e := t) ⟨by rw [hn, Nat.mul_one], .inr ⟨g, cap, _, rfl, Nat.le_refl _, h, by omega, by unfold maxLen; omega, by rw [List.size_toArray, hn, hc, Nat.mul_one], ?_⟩⟩ hl
  show (namesN l).take _ = _
  rw [Nat.mul_one, ← hn, List.take_of_length_le (Nat.le_refl _)]
theorem cell_zero {A W : World} {m0 : Int} (h : A.cell? ⟨0, 0, none⟩ = some (.int .i64 m0)) (hb : Below A.heap.size A W) : W.cell? ⟨0, 0, none⟩ = some (.int .i64 m0) := by
  have h0 : 0 < A.heap.size := by
    rcases Nat.eq_zero_or_pos A.heap.size with h1 | h1
    · have : A.heap[0]? = none := by rw [Array.getElem?_eq_none]; omega
      simp [World.cell?, this] at h
    · exact h1
  rw [cell_up hb h0]; exact h

theorem sa0 (w : World) : Calls Tryz.prog 11 #[.bool true, .string (encS 6), .string (encS 4)] w fun e w' => e = .returned (.tuple #[.agg #[.bool true, .string (encS 3), .string (encS 2)], .bool true]) ∧ Below w.heap.size w w' := by
  have h := RatMake_any true (encS 6) (encS 4) w (Nat.le_trans (encS_size_lt (show Sz 6 1 by unfold Sz; decide)) (by decide)) (Nat.le_trans (encS_size_lt (show Sz 4 1 by unfold Sz; decide)) (by decide))
  have hm : makeV true (encS 6) (encS 4) = .tuple #[rtV ⟨true, 3, 2⟩, .bool true] := by unfold makeV; rw [right_enc, right_enc, numS_encS, numS_encS]; rfl
  rw [hm] at h; exact h
theorem sa1 (w : World) : Calls Tryz.prog 13 #[.int .i64 1] w fun e w' => e = .returned (.string (encS 1)) ∧ Below w.heap.size w w' := by
  have h := rOf_any 1 w (by decide)
  exact h
theorem sa2 (w : World) : Calls Tryz.prog 13 #[.int .i64 2] w fun e w' => e = .returned (.string (encS 2)) ∧ Below w.heap.size w w' := by
  have h := rOf_any 2 w (by decide)
  exact h
theorem sa3 (w : World) : Calls Tryz.prog 13 #[.int .i64 3] w fun e w' => e = .returned (.string (encS 3)) ∧ Below w.heap.size w w' := by
  have h := rOf_any 3 w (by decide)
  exact h
theorem sa4 (w : World) : Calls Tryz.prog 13 #[.int .i64 4] w fun e w' => e = .returned (.string (encS 4)) ∧ Below w.heap.size w w' := by
  have h := rOf_any 4 w (by decide)
  exact h
theorem sa5 (w : World) : Calls Tryz.prog 13 #[.int .i64 6] w fun e w' => e = .returned (.string (encS 6)) ∧ Below w.heap.size w w' := by
  have h := rOf_any 6 w (by decide)
  exact h
theorem sa6 (w : World) : Calls Tryz.prog 13 #[.int .i64 0] w fun e w' => e = .returned (.string (encS 0)) ∧ Below w.heap.size w w' := by
  have h := rOf_any 0 w (by decide)
  exact h
theorem sa7 (w : World) : Calls Tryz.prog 11 #[.bool false, .string (encS 1), .string (encS 0)] w fun e w' => e = .returned (.tuple #[.agg #[.bool false, .string ⟨#[]⟩, .string ⟨#[]⟩], .bool false]) ∧ Below w.heap.size w w' := by
  have h := RatMake_any false (encS 1) (encS 0) w (Nat.le_trans (encS_size_lt (show Sz 1 1 by unfold Sz; decide)) (by decide)) (Nat.le_trans (encS_size_lt (show Sz 0 1 by unfold Sz; decide)) (by decide))
  have hm : makeV false (encS 1) (encS 0) = .tuple #[.agg #[.bool false, .string ⟨#[]⟩, .string ⟨#[]⟩], .bool false] := by unfold makeV; rw [right_enc, right_enc, numS_encS, numS_encS]; rfl
  rw [hm] at h; exact h
theorem sa8 (w : World) : Calls Tryz.prog 44 #[.int .i64 1, .int .i64 2] w fun e w' => e = .returned (.agg #[.bool false, .string (encS 1), .string (encS 2)]) ∧ Below w.heap.size w w' := by
  have h := frac_any 1 2 w (by decide) (by decide) (by decide) (by decide) (by decide)
  rw [show quoR (ofR 1) (ofR 2) = ⟨false, 1, 2⟩ from Rt.ext' (by decide) (by decide) (by decide)] at h
  exact h
theorem sa9 (w : World) : Calls Tryz.prog 44 #[.int .i64 (-1), .int .i64 4] w fun e w' => e = .returned (.agg #[.bool true, .string (encS 1), .string (encS 4)]) ∧ Below w.heap.size w w' := by
  have h := frac_any (-1) 4 w (by decide) (by decide) (by decide) (by decide) (by decide)
  rw [show quoR (ofR (-1)) (ofR 4) = ⟨true, 1, 4⟩ from Rt.ext' (by decide) (by decide) (by decide)] at h
  exact h
theorem sa10 (w : World) : Calls Tryz.prog 31 #[.agg #[.bool false, .string (encS 1), .string (encS 2)], .agg #[.bool true, .string (encS 1), .string (encS 4)]] w fun e w' => e = .returned (.tuple #[.agg #[.bool true, .string (encS 2), .string (encS 1)], .bool true]) ∧ Below w.heap.size w w' := by
  have h := RatQuo_r (IsR.of (show (⟨false, 1, 2⟩ : Rt).Ok from ⟨by decide, by decide, by decide⟩) (show Rz ⟨false, 1, 2⟩ 1 from ⟨by unfold Sz; decide, by unfold Sz; decide⟩)) (IsR.of (show (⟨true, 1, 4⟩ : Rt).Ok from ⟨by decide, by decide, by decide⟩) (show Rz ⟨true, 1, 4⟩ 1 from ⟨by unfold Sz; decide, by unfold Sz; decide⟩)) (by decide) (by decide) w
  have hq : quoV ⟨false, 1, 2⟩ ⟨true, 1, 4⟩ = .tuple #[rtV ⟨true, 2, 1⟩, .bool true] := by unfold quoV; rw [if_neg (by decide), show quoR ⟨false, 1, 2⟩ ⟨true, 1, 4⟩ = ⟨true, 2, 1⟩ from Rt.ext' (by decide) (by decide) (by decide)]
  rw [hq] at h; exact h
theorem sa11 (w : World) : Calls Tryz.prog 44 #[.int .i64 1, .int .i64 3] w fun e w' => e = .returned (.agg #[.bool false, .string (encS 1), .string (encS 3)]) ∧ Below w.heap.size w w' := by
  have h := frac_any 1 3 w (by decide) (by decide) (by decide) (by decide) (by decide)
  rw [show quoR (ofR 1) (ofR 3) = ⟨false, 1, 3⟩ from Rt.ext' (by decide) (by decide) (by decide)] at h
  exact h
theorem sa12 (w : World) : Calls Tryz.prog 44 #[.int .i64 0, .int .i64 1] w fun e w' => e = .returned (.agg #[.bool false, .string (encS 0), .string (encS 1)]) ∧ Below w.heap.size w w' := by
  have h := frac_any 0 1 w (by decide) (by decide) (by decide) (by decide) (by decide)
  rw [show quoR (ofR 0) (ofR 1) = ⟨false, 0, 1⟩ from Rt.ext' (by decide) (by decide) (by decide)] at h
  exact h
theorem oks_lit : oksL [rawR ⟨false, 1, 2⟩, rawR ⟨false, 1, 3⟩, rawR ⟨false, 0, 1⟩] = true := by
  unfold oksL
  simp only [List.all_cons, List.all_nil, Bool.and_true, rawR_right (show (⟨false, 1, 2⟩ : Rt).Ok from ⟨by decide, by decide, by decide⟩), rawR_right (show (⟨false, 1, 3⟩ : Rt).Ok from ⟨by decide, by decide, by decide⟩), rawR_right (show (⟨false, 0, 1⟩ : Rt).Ok from ⟨by decide, by decide, by decide⟩)]
  rfl
theorem lcm_lit : lcmL [rawR ⟨false, 1, 2⟩, rawR ⟨false, 1, 3⟩, rawR ⟨false, 0, 1⟩] 1 = 6 := by
  simp only [lcmL, rawR, List.foldl_cons, List.foldl_nil, numS_encS]
  decide
theorem comN_lit : comN [rawR ⟨false, 1, 2⟩, rawR ⟨false, 1, 3⟩, rawR ⟨false, 0, 1⟩] = [3, 2, 0] := by
  unfold comN
  rw [if_pos oks_lit, lcm_lit]
  simp only [numsL, rawR, List.map_cons, List.map_nil, numS_encS]
theorem comD_lit : comD [rawR ⟨false, 1, 2⟩, rawR ⟨false, 1, 3⟩, rawR ⟨false, 0, 1⟩] = encS 6 := by unfold comD; rw [if_pos oks_lit, lcm_lit]
theorem szl_lit : SzL [rawR ⟨false, 1, 2⟩, rawR ⟨false, 1, 3⟩, rawR ⟨false, 0, 1⟩] 1000 := by
  intro r hr
  simp only [List.mem_cons, List.not_mem_nil, or_false] at hr
  rcases hr with rfl | rfl | rfl
  · exact rawR_sz ⟨sz_one.mono (by decide), (show Sz 2 1 by unfold Sz; decide).mono (by decide)⟩
  · exact rawR_sz ⟨sz_one.mono (by decide), (show Sz 3 1 by unfold Sz; decide).mono (by decide)⟩
  · exact rawR_sz ⟨(show Sz 0 1 by unfold Sz; decide).mono (by decide), sz_one.mono (by decide)⟩
theorem sa_common (w : World) (g : Nat) (h : w.heap[g]? = some (.cells #[.bool false, .string (encS 1), .string (encS 2), .bool false, .string (encS 1), .string (encS 3), .bool false, .string (encS 0), .string (encS 1)] 26 (0, 0))) :
    Calls Tryz.prog 24 #[.slice (some ⟨g, 0, none⟩) 3 3] w fun e w' => ∃ v', e = .returned (.tuple #[.string (encS 6), v', .bool true]) ∧ LstN w' v' [3, 2, 0] ∧ Below w.heap.size w w' := by
  have hh := Common_any [rawR ⟨false, 1, 2⟩, rawR ⟨false, 1, 3⟩, rawR ⟨false, 0, 1⟩] (.slice (some ⟨g, 0, none⟩) 3 3) w (lit_lstR (l := [rawR ⟨false, 1, 2⟩, rawR ⟨false, 1, 3⟩, rawR ⟨false, 0, 1⟩]) h (by decide) rfl) (by decide) szl_lit
  rw [comD_lit, comN_lit, oks_lit] at hh
  exact hh
theorem sa_same (w : World) (v : Value) (g : Nat) (hv : LstN w v [3, 2, 0]) (h : w.heap[g]? = some (.cells #[.string (encS 3), .string (encS 2), .string (encS 0)] 22 (0, 0))) :
    Calls Tryz.prog 26 #[v, .slice (some ⟨g, 0, none⟩) 3 3] w fun e w' => e = .returned (.bool true) ∧ Below w.heap.size w w' := by
  have hh := Same_any [3, 2, 0] [3, 2, 0] v (.slice (some ⟨g, 0, none⟩) 3 3) w hv (lit_lstN (l := [3, 2, 0]) h (by decide) rfl)
  exact hh
theorem sa_text (w : World) (htab : Lib.TabIs Tryz.prog w "internal/strconv.uint64pow10" .u64 Lib.pow10Tab) : Calls Tryz.prog 19 #[.agg #[.bool true, .string (encS 3), .string (encS 2)]] w fun e w' => e = .returned (.string ⟨#[45, 51, 47, 50]⟩) ∧ Below w.heap.size w w' := by
  have h := RatText_r (IsR.of (show (⟨true, 3, 2⟩ : Rt).Ok from ⟨by decide, by decide, by decide⟩) (show Rz ⟨true, 3, 2⟩ 1 from ⟨by unfold Sz; decide, by unfold Sz; decide⟩)) (by decide) (by decide) w htab
  rw [show textS ⟨true, 3, 2⟩ = ⟨#[45, 51, 47, 50]⟩ from by simp [textS, textL, Lib.decDigits]] at h
  exact h

theorem sa13 (w : World) (htab : Lib.TabIs Tryz.prog w "internal/strconv.uint64pow10" .u64 Lib.pow10Tab) (m0 : Int) (hm : w.cell? ⟨0, 0, none⟩ = some (.int .i64 m0)) : Calls Tryz.prog 21 #[.string ⟨#[54, 47, 52]⟩] w fun e w' => e = .returned (.tuple #[.agg #[.bool false, .string ⟨#[]⟩, .string ⟨#[]⟩], .bool false]) ∧ Below w.heap.size w w' := by
  have h := RatParse_any [54, 47, 52] w (by decide) htab m0 hm
  have hp : parseV [54, 47, 52] = .tuple #[.agg #[.bool false, .string ⟨#[]⟩, .string ⟨#[]⟩], .bool false] := by
    have ho : parO [54, 47, 52] = false := by unfold parO; rw [show parL [54, 47, 52] = ⟨false, 3, 2⟩ from Rt.ext' (by decide) (by decide) (by decide), show textS ⟨false, 3, 2⟩ = ⟨#[51, 47, 50]⟩ from by simp [textS, textL, Lib.decDigits]]; simp
    unfold parseV; rw [ho]; rfl
  rw [hp] at h; exact h
theorem sa14 (w : World) (htab : Lib.TabIs Tryz.prog w "internal/strconv.uint64pow10" .u64 Lib.pow10Tab) (m0 : Int) (hm : w.cell? ⟨0, 0, none⟩ = some (.int .i64 m0)) : Calls Tryz.prog 21 #[.string ⟨#[45, 48]⟩] w fun e w' => e = .returned (.tuple #[.agg #[.bool false, .string ⟨#[]⟩, .string ⟨#[]⟩], .bool false]) ∧ Below w.heap.size w w' := by
  have h := RatParse_any [45, 48] w (by decide) htab m0 hm
  have hp : parseV [45, 48] = .tuple #[.agg #[.bool false, .string ⟨#[]⟩, .string ⟨#[]⟩], .bool false] := by
    have ho : parO [45, 48] = false := by unfold parO; rw [show parL [45, 48] = ⟨false, 0, 1⟩ from Rt.ext' (by decide) (by decide) (by decide), show textS ⟨false, 0, 1⟩ = ⟨#[48]⟩ from by simp [textS, textL, Lib.decDigits]]; simp
    unfold parseV; rw [ho]; rfl
  rw [hp] at h; exact h
theorem sa15 (w : World) (htab : Lib.TabIs Tryz.prog w "internal/strconv.uint64pow10" .u64 Lib.pow10Tab) (m0 : Int) (hm : w.cell? ⟨0, 0, none⟩ = some (.int .i64 m0)) : Calls Tryz.prog 21 #[.string ⟨#[51, 47, 49]⟩] w fun e w' => e = .returned (.tuple #[.agg #[.bool false, .string ⟨#[]⟩, .string ⟨#[]⟩], .bool false]) ∧ Below w.heap.size w w' := by
  have h := RatParse_any [51, 47, 49] w (by decide) htab m0 hm
  have hp : parseV [51, 47, 49] = .tuple #[.agg #[.bool false, .string ⟨#[]⟩, .string ⟨#[]⟩], .bool false] := by
    have ho : parO [51, 47, 49] = false := by unfold parO; rw [show parL [51, 47, 49] = ⟨false, 3, 1⟩ from Rt.ext' (by decide) (by decide) (by decide), show textS ⟨false, 3, 1⟩ = ⟨#[51]⟩ from by simp [textS, textL, Lib.decDigits]]; simp
    unfold parseV; rw [ho]; rfl
  rw [hp] at h; exact h
theorem sa16 (w : World) : Calls Tryz.prog 44 #[.int .i64 (-3), .int .i64 2] w fun e w' => e = .returned (.agg #[.bool true, .string (encS 3), .string (encS 2)]) ∧ Below w.heap.size w w' := by
  have h := frac_any (-3) 2 w (by decide) (by decide) (by decide) (by decide) (by decide)
  rw [show quoR (ofR (-3)) (ofR 2) = ⟨true, 3, 2⟩ from Rt.ext' (by decide) (by decide) (by decide)] at h
  exact h
theorem sa17 (w : World) : Calls Tryz.prog 44 #[.int .i64 (-1), .int .i64 3] w fun e w' => e = .returned (.agg #[.bool true, .string (encS 1), .string (encS 3)]) ∧ Below w.heap.size w w' := by
  have h := frac_any (-1) 3 w (by decide) (by decide) (by decide) (by decide) (by decide)
  rw [show quoR (ofR (-1)) (ofR 3) = ⟨true, 1, 3⟩ from Rt.ext' (by decide) (by decide) (by decide)] at h
  exact h
theorem sa18 (w : World) : Calls Tryz.prog 27 #[.agg #[.bool false, .string (encS 1), .string (encS 2)], .agg #[.bool true, .string (encS 1), .string (encS 3)]] w fun e w' => e = .returned (.agg #[.bool false, .string (encS 1), .string (encS 6)]) ∧ Below w.heap.size w w' := by
  have h := RatAdd_r (IsR.of (show (⟨false, 1, 2⟩ : Rt).Ok from ⟨by decide, by decide, by decide⟩) (show Rz ⟨false, 1, 2⟩ 1 from ⟨by unfold Sz; decide, by unfold Sz; decide⟩)) (IsR.of (show (⟨true, 1, 3⟩ : Rt).Ok from ⟨by decide, by decide, by decide⟩) (show Rz ⟨true, 1, 3⟩ 1 from ⟨by unfold Sz; decide, by unfold Sz; decide⟩)) (by decide) (by decide) w
  rw [show addR ⟨false, 1, 2⟩ ⟨true, 1, 3⟩ = ⟨false, 1, 6⟩ from Rt.ext' (by decide) (by decide) (by decide)] at h
  exact h
theorem sa19 (w : World) : Calls Tryz.prog 44 #[.int .i64 1, .int .i64 6] w fun e w' => e = .returned (.agg #[.bool false, .string (encS 1), .string (encS 6)]) ∧ Below w.heap.size w w' := by
  have h := frac_any 1 6 w (by decide) (by decide) (by decide) (by decide) (by decide)
  rw [show quoR (ofR 1) (ofR 6) = ⟨false, 1, 6⟩ from Rt.ext' (by decide) (by decide) (by decide)] at h
  exact h
theorem sa20 (w : World) : Calls Tryz.prog 44 #[.int .i64 (-2), .int .i64 1] w fun e w' => e = .returned (.agg #[.bool true, .string (encS 2), .string (encS 1)]) ∧ Below w.heap.size w w' := by
  have h := frac_any (-2) 1 w (by decide) (by decide) (by decide) (by decide) (by decide)
  rw [show quoR (ofR (-2)) (ofR 1) = ⟨true, 2, 1⟩ from Rt.ext' (by decide) (by decide) (by decide)] at h
  exact h
def ESN (b1 b5 : Nat) : Nat → Value
  | 0 => .bool true
  | 1 => .bool true
  | 2 => .agg #[.bool true, .string (encS 3), .string (encS 2)]
  | 3 => .agg #[.bool true, .string (encS 3), .string (encS 2)]
  | 4 => .bool true
  | 5 => .bool true
  | 6 => .bool true
  | 7 => .bool false
  | 8 => .bool true
  | 9 => .bool true
  | 10 => .bool true
  | 11 => .agg #[.bool false, .string (encS 1), .string (encS 2)]
  | 12 => .agg #[.bool true, .string (encS 1), .string (encS 3)]
  | 13 => .agg #[.bool false, .string (encS 1), .string (encS 6)]
  | 14 => .agg #[.bool false, .string (encS 1), .string (encS 6)]
  | 15 => .bool true
  | 16 => .bool true
  | 17 => .bool true
  | 18 => .bool true
  | 19 => .bool true
  | 20 => .bool true
  | 21 => .agg #[.bool true, .string (encS 2), .string (encS 1)]
  | 22 => .agg #[.bool true, .string (encS 2), .string (encS 1)]
  | 23 => .bool true
  | 24 => .bool true
  | 25 => .bool true
  | _ => undef
def SSN (b1 b5 : Nat) (ix : Nat) (v : Value) (w : World) : Prop :=
  match ix with
  | ix => v = ESN b1 b5 ix
theorem SSN_up (b1 b5 : Nat) (ix : Nat) (v : Value) (w w' : World) (hb : Below w.heap.size w w') (h : SSN b1 b5 ix v w) : SSN b1 b5 ix v w' := by
  exact h

set_option maxHeartbeats 2000000 in
set_option maxRecDepth 100000 in
theorem sanity_any (wq : World) (htab : Lib.TabIs Tryz.prog wq "internal/strconv.uint64pow10" .u64 Lib.pow10Tab) (m0 : Int) (hm : wq.cell? ⟨0, 0, none⟩ = some (.int .i64 m0)) :
    Calls Tryz.prog 10 #[] wq fun e w' => e = .returned (.bool true) ∧ Below wq.heap.size wq w' := by
  have HT := Lib.hid (Lib.tabBelow_of_tabIs htab)
  have HM := Lib.hid (fun W h => cell_zero (W := W) hm h)
  clear htab hm
  have HB := Lib.hid (Below.refl wq.heap.size wq)
  go_enter Tryz.func10, Tryz.ntmps10
  go_wp2_with fail
  refine (sa5 _).mono ?_
  rintro e w1 ⟨rfl, hb⟩
  have HB := Lib.hid (HB.out.trans (hb.mono HB.out.size))
  clear hb
  go_wp2_with fail
  refine (sa4 _).mono ?_
  rintro e w2 ⟨rfl, hb⟩
  have HB := Lib.hid (HB.out.trans (hb.mono HB.out.size))
  clear hb
  go_wp2_with fail
  refine (sa0 _).mono ?_
  rintro e w3 ⟨rfl, hb⟩
  have HB := Lib.hid (HB.out.trans (hb.mono HB.out.size))
  clear hb
  have HX1 := Lib.hid (heap_alloc_new w3 (.cells #[.bool true, .string (encS 3), .string (encS 2)] 26))
  have HB := Lib.hid (HB.out.alloc HB.out.size (.cells #[.bool true, .string (encS 3), .string (encS 2)] 26))
  go_wp2_with fail
  obtain ⟨W3, hW⟩ : ∃ W, w3.alloc (.cells #[.bool true, .string (encS 3), .string (encS 2)] 26) = W := ⟨_, rfl⟩
  rw [hW] at HX1
  rw [hW] at HB ⊢
  clear hW
  obtain ⟨b1, hbb⟩ : ∃ b, w3.heap.size = b := ⟨_, rfl⟩
  rw [hbb] at HX1 ⊢
  clear hbb
  refine (sa1 _).mono ?_
  rintro e w4 ⟨rfl, hb⟩
  have HX1 := Lib.hid (heap_up hb HX1.out)
  have HB := Lib.hid (HB.out.trans (hb.mono HB.out.size))
  clear hb
  go_wp2_with fail
  refine (sa6 _).mono ?_
  rintro e w5 ⟨rfl, hb⟩
  have HX1 := Lib.hid (heap_up hb HX1.out)
  have HB := Lib.hid (HB.out.trans (hb.mono HB.out.size))
  clear hb
  go_wp2_with fail
  refine (sa7 _).mono ?_
  rintro e w6 ⟨rfl, hb⟩
  have HX1 := Lib.hid (heap_up hb HX1.out)
  have HB := Lib.hid (HB.out.trans (hb.mono HB.out.size))
  clear hb
  have HXj := Lib.hid (heap_alloc_new w6 (.cells #[.bool false, .string ⟨#[]⟩, .string ⟨#[]⟩] 26))
  have HB := Lib.hid (HB.out.alloc HB.out.size (.cells #[.bool false, .string ⟨#[]⟩, .string ⟨#[]⟩] 26))
  have HX1 := Lib.hid (heap_up ((Below.refl _ w6).alloc (Nat.le_refl _) (.cells #[.bool false, .string ⟨#[]⟩, .string ⟨#[]⟩] 26)) HX1.out)
  go_wp2_with fail
  obtain ⟨W6, hW⟩ : ∃ W, w6.alloc (.cells #[.bool false, .string ⟨#[]⟩, .string ⟨#[]⟩] 26) = W := ⟨_, rfl⟩
  rw [hW] at HX1
  rw [hW] at HXj
  rw [hW] at HB ⊢
  clear hW
  refine (sa8 _).mono ?_
  rintro e w7 ⟨rfl, hb⟩
  have HX1 := Lib.hid (heap_up hb HX1.out)
  have HB := Lib.hid (HB.out.trans (hb.mono HB.out.size))
  clear hb
  go_wp2_with fail
  refine (sa9 _).mono ?_
  rintro e w8 ⟨rfl, hb⟩
  have HX1 := Lib.hid (heap_up hb HX1.out)
  have HB := Lib.hid (HB.out.trans (hb.mono HB.out.size))
  clear hb
  go_wp2_with fail
  refine (sa10 _).mono ?_
  rintro e w9 ⟨rfl, hb⟩
  have HX1 := Lib.hid (heap_up hb HX1.out)
  have HB := Lib.hid (HB.out.trans (hb.mono HB.out.size))
  clear hb
  have HX5 := Lib.hid (heap_alloc_new w9 (.cells #[.bool true, .string (encS 2), .string (encS 1)] 26))
  have HB := Lib.hid (HB.out.alloc HB.out.size (.cells #[.bool true, .string (encS 2), .string (encS 1)] 26))
  have HX1 := Lib.hid (heap_up ((Below.refl _ w9).alloc (Nat.le_refl _) (.cells #[.bool true, .string (encS 2), .string (encS 1)] 26)) HX1.out)
  go_wp2_with fail
  obtain ⟨W9, hW⟩ : ∃ W, w9.alloc (.cells #[.bool true, .string (encS 2), .string (encS 1)] 26) = W := ⟨_, rfl⟩
  rw [hW] at HX1
  rw [hW] at HX5
  rw [hW] at HB ⊢
  clear hW
  obtain ⟨b5, hbb⟩ : ∃ b, w9.heap.size = b := ⟨_, rfl⟩
  rw [hbb] at HX5 ⊢
  clear hbb
  refine (sa8 _).mono ?_
  rintro e w10 ⟨rfl, hb⟩
  have HX1 := Lib.hid (heap_up hb HX1.out)
  have HX5 := Lib.hid (heap_up hb HX5.out)
  have HB := Lib.hid (HB.out.trans (hb.mono HB.out.size))
  clear hb
  go_wp2_with fail
  refine (sa11 _).mono ?_
  rintro e w11 ⟨rfl, hb⟩
  have HX1 := Lib.hid (heap_up hb HX1.out)
  have HX5 := Lib.hid (heap_up hb HX5.out)
  have HB := Lib.hid (HB.out.trans (hb.mono HB.out.size))
  clear hb
  go_wp2_with fail
  refine (sa12 _).mono ?_
  rintro e w12 ⟨rfl, hb⟩
  have HX1 := Lib.hid (heap_up hb HX1.out)
  have HX5 := Lib.hid (heap_up hb HX5.out)
  have HB := Lib.hid (HB.out.trans (hb.mono HB.out.size))
  clear hb
  have HXl := Lib.hid (heap_alloc_new w12 (.cells #[.bool false, .string (encS 1), .string (encS 2), .bool false, .string (encS 1), .string (encS 3), .bool false, .string (encS 0), .string (encS 1)] 26))
  have HB := Lib.hid (HB.out.alloc HB.out.size (.cells #[.bool false, .string (encS 1), .string (encS 2), .bool false, .string (encS 1), .string (encS 3), .bool false, .string (encS 0), .string (encS 1)] 26))
  have HX1 := Lib.hid (heap_up ((Below.refl _ w12).alloc (Nat.le_refl _) (.cells #[.bool false, .string (encS 1), .string (encS 2), .bool false, .string (encS 1), .string (encS 3), .bool false, .string (encS 0), .string (encS 1)] 26)) HX1.out)
  have HX5 := Lib.hid (heap_up ((Below.refl _ w12).alloc (Nat.le_refl _) (.cells #[.bool false, .string (encS 1), .string (encS 2), .bool false, .string (encS 1), .string (encS 3), .bool false, .string (encS 0), .string (encS 1)] 26)) HX5.out)
  go_wp2_with fail
  obtain ⟨W12, hW⟩ : ∃ W, w12.alloc (.cells #[.bool false, .string (encS 1), .string (encS 2), .bool false, .string (encS 1), .string (encS 3), .bool false, .string (encS 0), .string (encS 1)] 26) = W := ⟨_, rfl⟩
  rw [hW] at HX1
  rw [hW] at HX5
  rw [hW] at HXl
  rw [hW] at HB ⊢
  clear hW
  refine (sa_common _ _ HXl.out).mono ?_
  rintro e w13 ⟨v, rfl, hv, hb⟩
  have HX1 := Lib.hid (heap_up hb HX1.out)
  have HX5 := Lib.hid (heap_up hb HX5.out)
  have HL := Lib.hid hv
  have HB := Lib.hid (HB.out.trans (hb.mono HB.out.size))
  clear hb hv
  go_wp2_with fail
  refine (sa13 _ (HT.out.on HB.out).here m0 (HM.out _ HB.out)).mono ?_
  rintro e w14 ⟨rfl, hb⟩
  have HX1 := Lib.hid (heap_up hb HX1.out)
  have HX5 := Lib.hid (heap_up hb HX5.out)
  have HL := Lib.hid (HL.out.up hb)
  have HB := Lib.hid (HB.out.trans (hb.mono HB.out.size))
  clear hb
  have HXj := Lib.hid (heap_alloc_new w14 (.cells #[.bool false, .string ⟨#[]⟩, .string ⟨#[]⟩] 26))
  have HB := Lib.hid (HB.out.alloc HB.out.size (.cells #[.bool false, .string ⟨#[]⟩, .string ⟨#[]⟩] 26))
  have HX1 := Lib.hid (heap_up ((Below.refl _ w14).alloc (Nat.le_refl _) (.cells #[.bool false, .string ⟨#[]⟩, .string ⟨#[]⟩] 26)) HX1.out)
  have HX5 := Lib.hid (heap_up ((Below.refl _ w14).alloc (Nat.le_refl _) (.cells #[.bool false, .string ⟨#[]⟩, .string ⟨#[]⟩] 26)) HX5.out)
  have HL := Lib.hid (LstN.up HL.out ((Below.refl _ w14).alloc (Nat.le_refl _) (.cells #[.bool false, .string ⟨#[]⟩, .string ⟨#[]⟩] 26)))
  go_wp2_with fail
  obtain ⟨W14, hW⟩ : ∃ W, w14.alloc (.cells #[.bool false, .string ⟨#[]⟩, .string ⟨#[]⟩] 26) = W := ⟨_, rfl⟩
  rw [hW] at HX1
  rw [hW] at HX5
  rw [hW] at HL
  rw [hW] at HXj
  rw [hW] at HB ⊢
  clear hW
  refine (sa14 _ (HT.out.on HB.out).here m0 (HM.out _ HB.out)).mono ?_
  rintro e w15 ⟨rfl, hb⟩
  have HX1 := Lib.hid (heap_up hb HX1.out)
  have HX5 := Lib.hid (heap_up hb HX5.out)
  have HL := Lib.hid (HL.out.up hb)
  have HB := Lib.hid (HB.out.trans (hb.mono HB.out.size))
  clear hb
  have HXj := Lib.hid (heap_alloc_new w15 (.cells #[.bool false, .string ⟨#[]⟩, .string ⟨#[]⟩] 26))
  have HB := Lib.hid (HB.out.alloc HB.out.size (.cells #[.bool false, .string ⟨#[]⟩, .string ⟨#[]⟩] 26))
  have HX1 := Lib.hid (heap_up ((Below.refl _ w15).alloc (Nat.le_refl _) (.cells #[.bool false, .string ⟨#[]⟩, .string ⟨#[]⟩] 26)) HX1.out)
  have HX5 := Lib.hid (heap_up ((Below.refl _ w15).alloc (Nat.le_refl _) (.cells #[.bool false, .string ⟨#[]⟩, .string ⟨#[]⟩] 26)) HX5.out)
  have HL := Lib.hid (LstN.up HL.out ((Below.refl _ w15).alloc (Nat.le_refl _) (.cells #[.bool false, .string ⟨#[]⟩, .string ⟨#[]⟩] 26)))
  go_wp2_with fail
  obtain ⟨W15, hW⟩ : ∃ W, w15.alloc (.cells #[.bool false, .string ⟨#[]⟩, .string ⟨#[]⟩] 26) = W := ⟨_, rfl⟩
  rw [hW] at HX1
  rw [hW] at HX5
  rw [hW] at HL
  rw [hW] at HXj
  rw [hW] at HB ⊢
  clear hW
  refine (sa15 _ (HT.out.on HB.out).here m0 (HM.out _ HB.out)).mono ?_
  rintro e w16 ⟨rfl, hb⟩
  have HX1 := Lib.hid (heap_up hb HX1.out)
  have HX5 := Lib.hid (heap_up hb HX5.out)
  have HL := Lib.hid (HL.out.up hb)
  have HB := Lib.hid (HB.out.trans (hb.mono HB.out.size))
  clear hb
  have HXj := Lib.hid (heap_alloc_new w16 (.cells #[.bool false, .string ⟨#[]⟩, .string ⟨#[]⟩] 26))
  have HB := Lib.hid (HB.out.alloc HB.out.size (.cells #[.bool false, .string ⟨#[]⟩, .string ⟨#[]⟩] 26))
  have HX1 := Lib.hid (heap_up ((Below.refl _ w16).alloc (Nat.le_refl _) (.cells #[.bool false, .string ⟨#[]⟩, .string ⟨#[]⟩] 26)) HX1.out)
  have HX5 := Lib.hid (heap_up ((Below.refl _ w16).alloc (Nat.le_refl _) (.cells #[.bool false, .string ⟨#[]⟩, .string ⟨#[]⟩] 26)) HX5.out)
  have HL := Lib.hid (LstN.up HL.out ((Below.refl _ w16).alloc (Nat.le_refl _) (.cells #[.bool false, .string ⟨#[]⟩, .string ⟨#[]⟩] 26)))
  go_wp2_with fail
  obtain ⟨W16, hW⟩ : ∃ W, w16.alloc (.cells #[.bool false, .string ⟨#[]⟩, .string ⟨#[]⟩] 26) = W := ⟨_, rfl⟩
  rw [hW] at HX1
  rw [hW] at HX5
  rw [hW] at HL
  rw [hW] at HXj
  rw [hW] at HB ⊢
  clear hW
  refine wp_region_vals (w := W16) (by kernel_rfl) (SSN b1 b5) (fun t => (decide (16 ≤ t) && decide (t < 17)) || (decide (57 ≤ t) && decide (t < 82))) (by kernel_rfl) (by kernel_rfl) (by kernel_rfl) (SSN_up b1 b5) ?_ ?_
  · intro i hi o listed a w hR K hK
    have ho := hR.at_
    have hi : i < 26 := hi
    have hii : i = 0 ∨ i = 1 ∨ i = 2 ∨ i = 3 ∨ i = 4 ∨ i = 5 ∨ i = 6 ∨ i = 7 ∨ i = 8 ∨ i = 9 ∨ i = 10 ∨ i = 11 ∨ i = 12 ∨ i = 13 ∨ i = 14 ∨ i = 15 ∨ i = 16 ∨ i = 17 ∨ i = 18 ∨ i = 19 ∨ i = 20 ∨ i = 21 ∨ i = 22 ∨ i = 23 ∨ i = 24 ∨ i = 25 := by omega
    rcases hii with rfl | rfl | rfl | rfl | rfl | rfl | rfl | rfl | rfl | rfl | rfl | rfl | rfl | rfl | rfl | rfl | rfl | rfl | rfl | rfl | rfl | rfl | rfl | rfl | rfl | rfl
    · simp at ho
      subst ho
      have b2 : a.tmps.getD 2 undef = .bool true := hR.base 2 (by kernel_rfl)
      refine plain_step rfl rfl ?_
      go_simp
      exact hK _ _ (rfl) (Below.refl _ _)
    · simp at ho
      subst ho
      have e0 : a.tmps.getD 57 undef = .bool true := hR.dep ⟨0, .data⟩ (by simp) rfl
      refine plain_step rfl rfl ?_
      go_simp
      exact hK _ _ (rfl) (Below.refl _ _)
    · simp at ho
      subst ho
      have e1 : a.tmps.getD 58 undef = .bool true := hR.dep ⟨1, .guard⟩ (by simp) rfl
      have b1 : a.tmps.getD 1 undef = .pointer (some ⟨b1, 0, none⟩) := hR.base 1 (by kernel_rfl)
      obtain ⟨⟨cx0, cx1, cx2⟩, -⟩ := row_cells (heap_up hR.below HX1.out)
      refine guard_step rfl rfl rfl (b := true) e1 ?_
      go_simp
      exact hK _ _ (rfl) (Below.refl _ _)
    · simp at ho
      subst ho
      have e1 : a.tmps.getD 58 undef = .bool true := hR.dep ⟨1, .guard⟩ (by simp) rfl
      refine guard_step rfl rfl rfl (b := true) e1 ?_
      go_simp
      refine (sa16 w).mono ?_
      rintro e w' ⟨rfl, hb⟩
      exact hK _ _ (rfl) hb
    · simp at ho
      subst ho
      have e2 : a.tmps.getD 59 undef = .agg #[.bool true, .string (encS 3), .string (encS 2)] := hR.dep ⟨2, .data⟩ (by simp) rfl
      have e3 : a.tmps.getD 60 undef = .agg #[.bool true, .string (encS 3), .string (encS 2)] := hR.dep ⟨3, .data⟩ (by simp) rfl
      have e1 : a.tmps.getD 58 undef = .bool true := hR.dep ⟨1, .guard⟩ (by simp) rfl
      refine guard_step rfl rfl rfl (b := true) e1 ?_
      go_simp
      exact hK _ _ (rfl) (Below.refl _ _)
    · simp at ho
      subst ho
      have e1 : a.tmps.getD 58 undef = .bool true := hR.dep ⟨1, .data⟩ (by simp) rfl
      have e4 : a.tmps.getD 61 undef = .bool true := hR.dep ⟨4, .data⟩ (by simp) rfl
      refine plain_step rfl rfl ?_
      go_simp
      exact hK _ _ (rfl) (Below.refl _ _)
    · simp at ho
      subst ho
      have e5 : a.tmps.getD 62 undef = .bool true := hR.dep ⟨5, .data⟩ (by simp) rfl
      refine plain_step rfl rfl ?_
      go_simp
      exact hK _ _ (rfl) (Below.refl _ _)
    · simp at ho
      subst ho
      have e6 : a.tmps.getD 63 undef = .bool true := hR.dep ⟨6, .guard⟩ (by simp) rfl
      have b4 : a.tmps.getD 4 undef = .bool false := hR.base 4 (by kernel_rfl)
      refine guard_step rfl rfl rfl (b := true) e6 ?_
      go_simp
      exact hK _ _ (rfl) (Below.refl _ _)
    · simp at ho
      subst ho
      have e7 : a.tmps.getD 64 undef = .bool false := hR.dep ⟨7, .data⟩ (by simp) rfl
      have e6 : a.tmps.getD 63 undef = .bool true := hR.dep ⟨6, .guard⟩ (by simp) rfl
      refine guard_step rfl rfl rfl (b := true) e6 ?_
      go_simp
      exact hK _ _ (rfl) (Below.refl _ _)
    · simp at ho
      subst ho
      have e6 : a.tmps.getD 63 undef = .bool true := hR.dep ⟨6, .data⟩ (by simp) rfl
      have e8 : a.tmps.getD 65 undef = .bool true := hR.dep ⟨8, .data⟩ (by simp) rfl
      refine plain_step rfl rfl ?_
      go_simp
      exact hK _ _ (rfl) (Below.refl _ _)
    · simp at ho
      subst ho
      have e9 : a.tmps.getD 66 undef = .bool true := hR.dep ⟨9, .data⟩ (by simp) rfl
      refine plain_step rfl rfl ?_
      go_simp
      exact hK _ _ (rfl) (Below.refl _ _)
    · simp at ho
      subst ho
      have e10 : a.tmps.getD 67 undef = .bool true := hR.dep ⟨10, .guard⟩ (by simp) rfl
      refine guard_step rfl rfl rfl (b := true) e10 ?_
      go_simp
      refine (sa8 w).mono ?_
      rintro e w' ⟨rfl, hb⟩
      exact hK _ _ (rfl) hb
    · simp at ho
      subst ho
      have e10 : a.tmps.getD 67 undef = .bool true := hR.dep ⟨10, .guard⟩ (by simp) rfl
      refine guard_step rfl rfl rfl (b := true) e10 ?_
      go_simp
      refine (sa17 w).mono ?_
      rintro e w' ⟨rfl, hb⟩
      exact hK _ _ (rfl) hb
    · simp at ho
      subst ho
      have e11 : a.tmps.getD 68 undef = .agg #[.bool false, .string (encS 1), .string (encS 2)] := hR.dep ⟨11, .data⟩ (by simp) rfl
      have e12 : a.tmps.getD 69 undef = .agg #[.bool true, .string (encS 1), .string (encS 3)] := hR.dep ⟨12, .data⟩ (by simp) rfl
      have e10 : a.tmps.getD 67 undef = .bool true := hR.dep ⟨10, .guard⟩ (by simp) rfl
      refine guard_step rfl rfl rfl (b := true) e10 ?_
      go_simp
      refine (sa18 w).mono ?_
      rintro e w' ⟨rfl, hb⟩
      exact hK _ _ (rfl) hb
    · simp at ho
      subst ho
      have e10 : a.tmps.getD 67 undef = .bool true := hR.dep ⟨10, .guard⟩ (by simp) rfl
      refine guard_step rfl rfl rfl (b := true) e10 ?_
      go_simp
      refine (sa19 w).mono ?_
      rintro e w' ⟨rfl, hb⟩
      exact hK _ _ (rfl) hb
    · simp at ho
      subst ho
      have e13 : a.tmps.getD 70 undef = .agg #[.bool false, .string (encS 1), .string (encS 6)] := hR.dep ⟨13, .data⟩ (by simp) rfl
      have e14 : a.tmps.getD 71 undef = .agg #[.bool false, .string (encS 1), .string (encS 6)] := hR.dep ⟨14, .data⟩ (by simp) rfl
      have e10 : a.tmps.getD 67 undef = .bool true := hR.dep ⟨10, .guard⟩ (by simp) rfl
      refine guard_step rfl rfl rfl (b := true) e10 ?_
      go_simp
      exact hK _ _ (rfl) (Below.refl _ _)
    · simp at ho
      subst ho
      have e10 : a.tmps.getD 67 undef = .bool true := hR.dep ⟨10, .data⟩ (by simp) rfl
      have e15 : a.tmps.getD 72 undef = .bool true := hR.dep ⟨15, .data⟩ (by simp) rfl
      refine plain_step rfl rfl ?_
      go_simp
      exact hK _ _ (rfl) (Below.refl _ _)
    · simp at ho
      subst ho
      have e16 : a.tmps.getD 73 undef = .bool true := hR.dep ⟨16, .data⟩ (by simp) rfl
      refine plain_step rfl rfl ?_
      go_simp
      exact hK _ _ (rfl) (Below.refl _ _)
    · simp at ho
      subst ho
      have e17 : a.tmps.getD 74 undef = .bool true := hR.dep ⟨17, .guard⟩ (by simp) rfl
      have b6 : a.tmps.getD 6 undef = .bool true := hR.base 6 (by kernel_rfl)
      refine guard_step rfl rfl rfl (b := true) e17 ?_
      go_simp
      exact hK _ _ (rfl) (Below.refl _ _)
    · simp at ho
      subst ho
      have e17 : a.tmps.getD 74 undef = .bool true := hR.dep ⟨17, .data⟩ (by simp) rfl
      have e18 : a.tmps.getD 75 undef = .bool true := hR.dep ⟨18, .data⟩ (by simp) rfl
      refine plain_step rfl rfl ?_
      go_simp
      exact hK _ _ (rfl) (Below.refl _ _)
    · simp at ho
      subst ho
      have e19 : a.tmps.getD 76 undef = .bool true := hR.dep ⟨19, .data⟩ (by simp) rfl
      refine plain_step rfl rfl ?_
      go_simp
      exact hK _ _ (rfl) (Below.refl _ _)
    · simp at ho
      subst ho
      have e20 : a.tmps.getD 77 undef = .bool true := hR.dep ⟨20, .guard⟩ (by simp) rfl
      have b5 : a.tmps.getD 5 undef = .pointer (some ⟨b5, 0, none⟩) := hR.base 5 (by kernel_rfl)
      obtain ⟨⟨cx0, cx1, cx2⟩, -⟩ := row_cells (heap_up hR.below HX5.out)
      refine guard_step rfl rfl rfl (b := true) e20 ?_
      go_simp
      exact hK _ _ (rfl) (Below.refl _ _)
    · simp at ho
      subst ho
      have e20 : a.tmps.getD 77 undef = .bool true := hR.dep ⟨20, .guard⟩ (by simp) rfl
      refine guard_step rfl rfl rfl (b := true) e20 ?_
      go_simp
      refine (sa20 w).mono ?_
      rintro e w' ⟨rfl, hb⟩
      exact hK _ _ (rfl) hb
    · simp at ho
      subst ho
      have e21 : a.tmps.getD 78 undef = .agg #[.bool true, .string (encS 2), .string (encS 1)] := hR.dep ⟨21, .data⟩ (by simp) rfl
      have e22 : a.tmps.getD 79 undef = .agg #[.bool true, .string (encS 2), .string (encS 1)] := hR.dep ⟨22, .data⟩ (by simp) rfl
      have e20 : a.tmps.getD 77 undef = .bool true := hR.dep ⟨20, .guard⟩ (by simp) rfl
      refine guard_step rfl rfl rfl (b := true) e20 ?_
      go_simp
      exact hK _ _ (rfl) (Below.refl _ _)
    · simp at ho
      subst ho
      have e20 : a.tmps.getD 77 undef = .bool true := hR.dep ⟨20, .data⟩ (by simp) rfl
      have e23 : a.tmps.getD 80 undef = .bool true := hR.dep ⟨23, .data⟩ (by simp) rfl
      refine plain_step rfl rfl ?_
      go_simp
      exact hK _ _ (rfl) (Below.refl _ _)
    · simp at ho
      subst ho
      have e24 : a.tmps.getD 81 undef = .bool true := hR.dep ⟨24, .data⟩ (by simp) rfl
      refine plain_step rfl rfl ?_
      go_simp
      exact hK _ _ (rfl) (Below.refl _ _)
  · intro s w hS hb
    have e25 : s 16 = .bool true := hS 25 (by decide)
    simp only [over, Nat.zero_add, Nat.reduceAdd, Nat.reduceLeDiff, Nat.reduceLT, decide_true, decide_false, Bool.and_true, Bool.and_false, Bool.or_false, Bool.or_true, cond_true, cond_false]
    have HB := Lib.hid (HB.out.trans (hb.mono HB.out.size))
    have HL := Lib.hid (HL.out.up hb)
    obtain ⟨w8, hw8⟩ : ∃ w8, w8 = w := ⟨_, rfl⟩
    subst hw8
    rw [e25]
    clear hS hb e25 HX1 HX5
    go_wp2_with fail
    refine (sa5 _).mono ?_
    rintro e w31 ⟨rfl, hb⟩
    have HL := Lib.hid (HL.out.up hb)
    have HB := Lib.hid (HB.out.trans (hb.mono HB.out.size))
    clear hb
    go_wp2_with fail
    refine (sa3 _).mono ?_
    rintro e w32 ⟨rfl, hb⟩
    have HL := Lib.hid (HL.out.up hb)
    have HB := Lib.hid (HB.out.trans (hb.mono HB.out.size))
    clear hb
    go_wp2_with fail
    refine (sa2 _).mono ?_
    rintro e w33 ⟨rfl, hb⟩
    have HL := Lib.hid (HL.out.up hb)
    have HB := Lib.hid (HB.out.trans (hb.mono HB.out.size))
    clear hb
    go_wp2_with fail
    refine (sa6 _).mono ?_
    rintro e w34 ⟨rfl, hb⟩
    have HL := Lib.hid (HL.out.up hb)
    have HB := Lib.hid (HB.out.trans (hb.mono HB.out.size))
    clear hb
    have HXn := Lib.hid (heap_alloc_new w34 (.cells #[.string (encS 3), .string (encS 2), .string (encS 0)] 22))
    have HB := Lib.hid (HB.out.alloc HB.out.size (.cells #[.string (encS 3), .string (encS 2), .string (encS 0)] 22))
    have HL := Lib.hid (LstN.up HL.out ((Below.refl _ w34).alloc (Nat.le_refl _) (.cells #[.string (encS 3), .string (encS 2), .string (encS 0)] 22)))
    go_wp2_with fail
    obtain ⟨W34, hW⟩ : ∃ W, w34.alloc (.cells #[.string (encS 3), .string (encS 2), .string (encS 0)] 22) = W := ⟨_, rfl⟩
    rw [hW] at HL
    rw [hW] at HXn
    rw [hW] at HB ⊢
    clear hW
    refine (sa_same _ _ _ HL.out HXn.out).mono ?_
    rintro e w35 ⟨rfl, hb⟩
    have HL := Lib.hid (HL.out.up hb)
    have HB := Lib.hid (HB.out.trans (hb.mono HB.out.size))
    clear hb
    go_wp2_with fail
    refine (sa16 _).mono ?_
    rintro e w36 ⟨rfl, hb⟩
    have HL := Lib.hid (HL.out.up hb)
    have HB := Lib.hid (HB.out.trans (hb.mono HB.out.size))
    clear hb
    go_wp2_with fail
    refine (sa_text _ (HT.out.on HB.out).here).mono ?_
    rintro e w37 ⟨rfl, hb⟩
    have HL := Lib.hid (HL.out.up hb)
    have HB := Lib.hid (HB.out.trans (hb.mono HB.out.size))
    clear hb
    go_wp2_with fail
    go_ret
    exact ⟨rfl, HB.out⟩
end Go.Proofs.YtancflpioigjbaaGreatDoor
