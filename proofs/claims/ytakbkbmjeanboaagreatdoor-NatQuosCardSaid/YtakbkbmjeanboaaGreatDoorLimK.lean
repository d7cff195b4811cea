/- estimate of package nat. Each theorem names its conditions. -/
import Derived.Test.YtakbkbmjeanboaaGreatDoorLimI
import Derived.Deep.QuietTactic
import Derived.BigQuiet
namespace Go.Proofs.YtakbkbmjeanboaaGreatDoor
open Go.RowKit Go.Shelf
open Dgt
set_option linter.unusedVariables false

/-- the greatest digit whose product with the first two digits of the divisor is not greater than the first three of what is divided -/
def EstR (T V u2 q : Nat) : Prop := q < 4294967296 ∧ q * V ≤ T * 4294967296 + u2 ∧ (q = 4294967295 ∨ T * 4294967296 + u2 < (q + 1) * V)
def EstI (T v0 v1 u2 q r : Nat) : Prop := q ≤ 4294967297 ∧ q * v0 + r = T ∧ r < 4294967296 ∧ (4294967295 ≤ q ∨ T * 4294967296 + u2 < (q + 1) * (v0 * 4294967296 + v1))
theorem est_init {u0 u1 u2 v0 v1 : Nat} (h1 : u1 < 4294967296) (h2 : u2 < 4294967296) (hv : 2147483648 ≤ v0) (hv2 : v0 < 4294967296) (hu : u0 ≤ v0) : EstI (u0 * 4294967296 + u1) v0 v1 u2 ((u0 * 4294967296 + u1) / v0) ((u0 * 4294967296 + u1) % v0) := by
  have hT0 : u0 * 4294967296 + u1 < v0 * 4294967298 := by omega
  generalize u0 * 4294967296 + u1 = T at hT0 ⊢
  have hm := Nat.mod_lt T (show 0 < v0 by omega)
  refine ⟨?_, Nat.div_add_mod' _ _, by omega, .inr ?_⟩
  · have : T / v0 < 4294967298 := by
      rw [Nat.div_lt_iff_lt_mul (by omega), Nat.mul_comm]
      exact hT0
    omega
  · have h := Nat.lt_div_mul_add (a := T) (show 0 < v0 by omega)
    generalize T / v0 = q at h ⊢
    have e : (q + 1) * (v0 * 4294967296 + v1) = (q * v0 + v0) * 4294967296 + (q + 1) * v1 := by
      rw [Nat.mul_add, ← Nat.mul_assoc, Nat.add_mul q 1 v0, Nat.one_mul]
    rw [e]
    clear e hm hT0 hv hv2 hu h1
    generalize q * v0 + v0 = y at h ⊢
    generalize (q + 1) * v1 = z
    omega
theorem est_prod {T v0 v1 q r : Nat} (h : q * v0 + r = T) : q * (v0 * 4294967296 + v1) + r * 4294967296 = T * 4294967296 + q * v1 := by
  rw [← h, Nat.mul_add, ← Nat.mul_assoc, Nat.add_mul]; omega
theorem lin_lt {a b c d u : Nat} (h1 : a + d = c + b) (h2 : d + u < b) : c + u < a := by omega
theorem est_exit {T v0 v1 u2 q r : Nat} (h : EstI T v0 v1 u2 q r) (hq : q < 4294967296) (hc : q * v1 ≤ r * 4294967296 + u2) : EstR T (v0 * 4294967296 + v1) u2 q := by
  obtain ⟨-, h2, -, h4⟩ := h
  have := est_prod (v1 := v1) h2
  exact ⟨hq, by omega, h4.imp (fun h => by omega) id⟩
theorem est_step {T v0 v1 u2 q r : Nat} (h : EstI T v0 v1 u2 q r) (hc : 4294967296 ≤ q ∨ r * 4294967296 + u2 < q * v1) : ∃ p, q = p + 1 ∧ p ≤ 4294967297 ∧ p * v0 + (r + v0) = T ∧ (4294967295 ≤ p ∨ T * 4294967296 + u2 < (p + 1) * (v0 * 4294967296 + v1)) := by
  obtain ⟨h1, h2, h3, h4⟩ := h
  rcases q with _ | p
  · rcases hc with h | h
    · omega
    · simp at h
  · refine ⟨p, rfl, by omega, by rw [Nat.add_mul p 1 v0, Nat.one_mul] at h2; omega, ?_⟩
    rcases hc with h | h
    · left; omega
    · right
      exact lin_lt (est_prod (v1 := v1) h2) h
theorem est_break {u0 u1 v0 v1 u2 p r : Nat} (hu : u0 ≤ v0) (h1 : u1 < 4294967296) (hv1 : v1 < 4294967296) (h : p * v0 + r = u0 * 4294967296 + u1) (hr : 4294967296 ≤ r) (h4 : 4294967295 ≤ p ∨ (u0 * 4294967296 + u1) * 4294967296 + u2 < (p + 1) * (v0 * 4294967296 + v1)) : EstR (u0 * 4294967296 + u1) (v0 * 4294967296 + v1) u2 p := by
  have hp : p < 4294967296 := by
    rcases Nat.lt_or_ge p 4294967296 with h' | h'
    · exact h'
    · have := Nat.mul_le_mul_right v0 h'
      have := Nat.mul_le_mul_right 4294967296 hu
      omega
  have := est_prod (v1 := v1) h
  have h5 : p * v1 ≤ 4294967295 * 4294967295 := Nat.mul_le_mul (by omega) (by omega)
  exact ⟨hp, by omega, h4.imp (fun h => by omega) id⟩
set_option maxHeartbeats 8000000 in
set_option maxRecDepth 100000 in
theorem estimate_any (u0 u1 u2 v0 v1 : Nat) (w : World) (h0 : u0 < 4294967296) (h1 : u1 < 4294967296) (h2 : u2 < 4294967296) (hv : 2147483648 ≤ v0) (hv0 : v0 < 4294967296) (hv1 : v1 < 4294967296) (hu : u0 ≤ v0) :
    Calls Tryz.prog 70 #[.agg #[.int .u32 (u0 : Int), .int .u32 (u1 : Int), .int .u32 (u2 : Int)], .agg #[.int .u32 (v0 : Int), .int .u32 (v1 : Int), .int .u32 0]] w fun e w' => ∃ q : Nat, e = .returned (.int .u64 (q : Int)) ∧ EstR (u0 * 4294967296 + u1) (v0 * 4294967296 + v1) u2 q ∧ Below w.heap.size w w' := by
  have HI := Lib.hid (est_init (v1 := v1) h1 h2 hv hv0 hu)
  have HBR := Lib.hid (fun p r h hr h4 => est_break (p := p) (r := r) (u2 := u2) hu h1 hv1 h hr h4)
  obtain ⟨r1, hr1⟩ : ∃ r, u0 * 4294967296 = r := ⟨_, rfl⟩
  obtain ⟨T, hT⟩ : ∃ T, u0 * 4294967296 + u1 = T := ⟨_, rfl⟩
  rw [hT] at HI HBR ⊢
  have e5 : r1 ||| u1 = T := by
    rw [← hT, hr1, ← hr1, show (4294967296 : Nat) = 2 ^ 32 by decide, Nat.or_comm, shl_join (by simpa using h1), Nat.add_comm]
  have hTl : T < 18446744073709551616 := by omega
  have q1 : (u0 : Int) * 4294967296 = (r1 : Int) := by omega
  have q2 : bits .or .u64 (r1 : Int) (u1 : Int) = (T : Int) := by rw [u64_or_nat _ _ (by omega) (by omega), e5]
  obtain ⟨q, hq⟩ : ∃ q, T / v0 = q := ⟨_, rfl⟩
  obtain ⟨r, hr⟩ : ∃ r, T % v0 = r := ⟨_, rfl⟩
  rw [hq, hr] at HI
  have q3 : (T : Int) / (v0 : Int) = (q : Int) := by rw [← hq]; simp
  have q4 : (T : Int).tmod (v0 : Int) = (r : Int) := by rw [Int.tmod_eq_emod_of_nonneg (by omega), ← hr]; simp
  have hql : q < 18446744073709551616 := by have := Nat.div_le_self T v0; omega
  have w1 : IntKind.u64.wrap (v0 : Int) = (v0 : Int) := by rw [IntKind.wrap_u64]; omega
  have w2 : IntKind.u64.wrap (q : Int) = (q : Int) := by rw [IntKind.wrap_u64]; omega
  have hvn : ¬ v0 = 0 := by omega
  have hu0' : (u0 : Int) < 4294967296 := by omega
  have hu1' : (u1 : Int) < 4294967296 := by omega
  have hr1' : (r1 : Int) < 18446744073709551616 := by omega
  have hv0' : (v0 : Int) < 4294967296 := by omega
  have hv1' : (v1 : Int) < 4294967296 := by omega
  have hu2' : (u2 : Int) < 4294967296 := by omega
  clear hr1 hT e5 hq hr h0 h1 h2 hv hv0 hv1 hu hTl hql
  go_enter Tryz.func70, Tryz.ntmps70
  go_wp2_with fail
  have HB := Lib.hid (((Below.refl w.heap.size w).alloc (Nat.le_refl _) (.cells #[.int .u32 (u0 : Int), .int .u32 (u1 : Int), .int .u32 (u2 : Int)] 92)).alloc (by simp) (.cells #[.int .u32 (v0 : Int), .int .u32 (v1 : Int), .int .u32 0] 92))
  have k2 := heap_alloc_new (w.alloc (.cells #[.int .u32 (u0 : Int), .int .u32 (u1 : Int), .int .u32 (u2 : Int)] 92)) (.cells #[.int .u32 (v0 : Int), .int .u32 (v1 : Int), .int .u32 0] 92)
  have k1 := heap_up ((Below.refl _ (w.alloc (.cells #[.int .u32 (u0 : Int), .int .u32 (u1 : Int), .int .u32 (u2 : Int)] 92))).alloc (Nat.le_refl _) (.cells #[.int .u32 (v0 : Int), .int .u32 (v1 : Int), .int .u32 0] 92)) (heap_alloc_new w (.cells #[.int .u32 (u0 : Int), .int .u32 (u1 : Int), .int .u32 (u2 : Int)] 92))
  have hsz : (w.alloc (.cells #[.int .u32 (u0 : Int), .int .u32 (u1 : Int), .int .u32 (u2 : Int)] 92)).heap.size = w.heap.size + 1 := by simp
  rw [hsz] at k2
  obtain ⟨V, hV⟩ : ∃ V, (w.alloc (.cells #[.int .u32 (u0 : Int), .int .u32 (u1 : Int), .int .u32 (u2 : Int)] 92)).alloc (.cells #[.int .u32 (v0 : Int), .int .u32 (v1 : Int), .int .u32 0] 92) = V := ⟨_, rfl⟩
  rw [hV] at HB k1 k2 ⊢
  obtain ⟨b, hb⟩ : ∃ b, w.heap.size = b := ⟨_, rfl⟩
  rw [hb] at k1 k2 ⊢
  have HBW := Lib.hid hb
  have cu0 : V.cell? ⟨b, 0, none⟩ = some (.int .u32 (u0 : Int)) := by rw [Lib.cell_of_heap k1]; rfl
  have cu1 : V.cell? ⟨b, 1, none⟩ = some (.int .u32 (u1 : Int)) := by rw [Lib.cell_of_heap k1]; rfl
  have cu2 : V.cell? ⟨b, 2, none⟩ = some (.int .u32 (u2 : Int)) := by rw [Lib.cell_of_heap k1]; rfl
  have cv0 : V.cell? ⟨b + 1, 0, none⟩ = some (.int .u32 (v0 : Int)) := by rw [Lib.cell_of_heap k2]; rfl
  have cv1 : V.cell? ⟨b + 1, 1, none⟩ = some (.int .u32 (v1 : Int)) := by rw [Lib.cell_of_heap k2]; rfl
  clear k1 k2 hsz hV hb
  go_step3
  go_wp2_with fail
  go_quiet (fail)
  go_wp2_with fail
  go_step3
  go_wp2_with fail
  clear q1 q2 q3 q4 w1 w2 hvn
  have HB := Lib.hid (below_drewN HB.out nq)
  obtain ⟨W, hW⟩ : ∃ W, V.drewN nq = W := ⟨_, rfl⟩
  rw [hW] at HB ⊢
  have cu2 : W.cell? ⟨b, 2, none⟩ = some (.int .u32 (u2 : Int)) := by rw [← hW]; exact cu2
  have cv0 : W.cell? ⟨b + 1, 0, none⟩ = some (.int .u32 (v0 : Int)) := by rw [← hW]; exact cv0
  have cv1 : W.cell? ⟨b + 1, 1, none⟩ = some (.int .u32 (v1 : Int)) := by rw [← hW]; exact cv1
  clear hW cu0 cu1
  go_loop [6, 7] (fun qv rv => ∃ q r : Nat, qv = .int .u64 (q : Int) ∧ rv = .int .u64 (r : Int) ∧ (q : Int) ≤ 4294967297 ∧ (r : Int) < 4294967296 ∧ Hid (EstI T v0 v1 u2 q r)) (fun qv _ => (intOf qv).toNat)
  case atStart => exact ⟨q, r, rfl, rfl, by have := HI.out.1; omega, by have := HI.out.2.2.1; omega, HI⟩
  case round =>
    clear HI
    obtain ⟨q, r, rfl, rfl, hq, hr, HI⟩ := hrel
    obtain ⟨pr, hpr⟩ : ∃ z, q * v1 = z := ⟨_, rfl⟩
    obtain ⟨rs, hrs⟩ : ∃ z, r * 4294967296 = z := ⟨_, rfl⟩
    have hu2n : u2 < 4294967296 := by omega
    have e5 : rs ||| u2 = rs + u2 := by
      rw [← hrs, show (4294967296 : Nat) = 2 ^ 32 by decide, Nat.or_comm, shl_join (by simpa using hu2n), Nat.add_comm]
    obtain ⟨z, hz⟩ : ∃ z, rs + u2 = z := ⟨_, rfl⟩
    have q1 : (r : Int) * 4294967296 = (rs : Int) := by omega
    have hrsl : (rs : Int) < 18446744073709551616 := by omega
    have q2 : bits .or .u64 (rs : Int) (u2 : Int) = (z : Int) := by rw [u64_or_nat _ _ (by omega) (by omega), e5, hz]
    have HZ : Hid (z = r * 4294967296 + u2) := Lib.hid (by rw [hrs, hz])
    have HP := Lib.hid hpr
    clear hrs hz e5 hu2n
    by_cases hb : 4294967296 ≤ q
    · have hb' : 4294967295 < (q : Int) := by omega
      obtain ⟨p, hqp, hp1, hp2, hp4⟩ := est_step HI.out (.inl hb)
      have qs : (q : Int) - 1 = (p : Int) := by omega
      have hqm : p < q := by omega
      clear hqp
      have HP4 := Lib.hid hp4; have HP2 := Lib.hid hp2
      clear hp2 hp4
      obtain ⟨r', hr'⟩ : ∃ r', r + v0 = r' := ⟨_, rfl⟩
      have qr : (r : Int) + (v0 : Int) = (r' : Int) := by omega
      have hp1' : (p : Int) ≤ 4294967297 := by omega
      have HP1 := Lib.hid hp1
      clear hp1
      have HR := Lib.hid hr'
      rw [HR.out] at HP2
      clear hr'
      by_cases hrr : r' < 4294967296
      · have hrr' : (r' : Int) < 4294967296 := by omega
        have HRR := Lib.hid hrr
        clear hrr hb
        have hrr2 : ¬ 4294967295 < (r' : Int) := by omega
        go_wp2_with fail
        go_round
        case rel => exact ⟨p, r', by go_num, rfl, hp1', hrr', Lib.hid ⟨HP1.out, HP2.out, HRR.out, HP4.out⟩⟩
        case measure => simp [intOf]; omega
      · have hrr' : 4294967295 < (r' : Int) := by omega
        have HF := Lib.hid (HBR.out p r' HP2.out (by omega) HP4.out)
        clear hrr hb
        go_wp2_with fail
        try rw [Exit.noGoto_ret]
        go_ret
        exact ⟨p, by go_num, HF.out, HB.out⟩
    · have hb' : ¬ 4294967295 < (q : Int) := by omega
      have hql : q ≤ 4294967295 := by omega
      have hpl : pr ≤ 18446744065119617025 := by rw [← HP.out]; exact Nat.mul_le_mul hql (show v1 ≤ 4294967295 by omega)
      have qm : (q : Int) * (v1 : Int) = (pr : Int) := by rw [← HP.out]; simp
      by_cases hc : z < pr
      · have hc' : (z : Int) < (pr : Int) := by omega
        have HC := Lib.hid (show r * 4294967296 + u2 < q * v1 by rw [← HZ.out, HP.out]; exact hc)
        have hpl' : (pr : Int) ≤ 18446744065119617025 := by omega
        obtain ⟨p, hqp, hp1, hp2, hp4⟩ := est_step HI.out (.inr HC.out)
        have qs : (q : Int) - 1 = (p : Int) := by omega
        have hqm : p < q := by omega
        clear hqp
        have HP4 := Lib.hid hp4; have HP2 := Lib.hid hp2
        clear hp2 hp4
        obtain ⟨r', hr'⟩ : ∃ r', r + v0 = r' := ⟨_, rfl⟩
        have qr : (r : Int) + (v0 : Int) = (r' : Int) := by omega
        have hp1' : (p : Int) ≤ 4294967297 := by omega
        have HP1 := Lib.hid hp1
        clear hp1
        have HR := Lib.hid hr'
        rw [HR.out] at HP2
        clear hr'
        by_cases hrr : r' < 4294967296
        · have hrr' : (r' : Int) < 4294967296 := by omega
          have HRR := Lib.hid hrr
          clear hrr hb hql hpl hc
          have hrr2 : ¬ 4294967295 < (r' : Int) := by omega
          go_wp2_with fail
          go_round
          case rel => exact ⟨p, r', by go_num, rfl, hp1', hrr', Lib.hid ⟨HP1.out, HP2.out, HRR.out, HP4.out⟩⟩
          case measure => simp [intOf]; omega
        · have hrr' : 4294967295 < (r' : Int) := by omega
          have HF := Lib.hid (HBR.out p r' HP2.out (by omega) HP4.out)
          clear hrr hb hql hpl hc
          go_wp2_with fail
          try rw [Exit.noGoto_ret]
          go_ret
          exact ⟨p, by go_num, HF.out, HB.out⟩
      · have hc' : ¬ (z : Int) < (pr : Int) := by omega
        have hpl' : (pr : Int) ≤ 18446744065119617025 := by omega
        have HF := Lib.hid (est_exit HI.out (by omega) (by rw [← HZ.out, HP.out]; omega))
        clear hc hql hpl hb
        go_wp2_with fail
        try rw [Exit.noGoto_ret]
        go_ret
        exact ⟨q, rfl, HF.out, HB.out⟩
end Go.Proofs.YtakbkbmjeanboaaGreatDoor
