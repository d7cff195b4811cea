/- Plain laws: the value of a number in lowest terms is a rational number of core. No program in sight. -/
import Derived.Test.YtancflpioigjbaaGreatDoorRat
namespace Go.Proofs.YtancflpioigjbaaGreatDoor
open Go.RowKit Go.Shelf
open Dgt
set_option linter.unusedVariables false

/-- the numerator with its sign -/
def iv (neg : Bool) (n : Nat) : Int := if neg then -(n : Int) else n
/-- the value -/
def Rt.q (a : Rt) : Rat := mkRat (iv a.neg a.num) a.den
theorem iv_natAbs (neg : Bool) (n : Nat) : (iv neg n).natAbs = n := by unfold iv; cases neg <;> simp
theorem Rt.Ok.red {a : Rt} (h : a.Ok) : Nat.gcd (iv a.neg a.num).natAbs a.den = 1 := by rw [iv_natAbs]; exact h.one
theorem Rt.Ok.q_eq {a : Rt} (h : a.Ok) : a.q = ⟨iv a.neg a.num, a.den, Nat.pos_iff_ne_zero.1 h.pos, h.red⟩ := by
  unfold Rt.q
  rw [Rat.mk_eq_mkRat]
theorem Rt.Ok.qnum {a : Rt} (h : a.Ok) : a.q.num = iv a.neg a.num := by rw [h.q_eq]
theorem Rt.Ok.qden {a : Rt} (h : a.Ok) : a.q.den = a.den := by rw [h.q_eq]
theorem q_inj {a b : Rt} (ha : a.Ok) (hb : b.Ok) (h : a.q = b.q) : a = b := by
  have h1 : iv a.neg a.num = iv b.neg b.num := by rw [← ha.qnum, ← hb.qnum, h]
  have h2 : a.den = b.den := by rw [← ha.qden, ← hb.qden, h]
  have h3 : a.num = b.num := by rw [← iv_natAbs a.neg a.num, ← iv_natAbs b.neg b.num, h1]
  refine Rt.ext' ?_ h3 h2
  have p1 := ha.nz; have p2 := hb.nz
  rw [h3] at h1
  revert h1 p1 p2
  rw [h3]
  cases a.neg <;> cases b.neg <;> simp [iv] <;> omega
theorem q_iff {a b : Rt} (ha : a.Ok) (hb : b.Ok) : a = b ↔ a.q = b.q := ⟨fun h => by rw [h], q_inj ha hb⟩
theorem iv_mul (x y : Bool) (m n : Nat) : iv x m * iv y n = iv (x != y) (m * n) := by
  cases x <;> cases y <;> simp [iv, Int.neg_mul, Int.mul_neg]
theorem q_low (neg : Bool) {n d : Nat} (hd : 0 < d) : (low neg n d).q = mkRat (iv neg n) d := by
  have hg : 0 < Nat.gcd n d := Nat.gcd_pos_of_pos_right n hd
  have e1 : n / Nat.gcd n d * Nat.gcd n d = n := Nat.div_mul_cancel (Nat.gcd_dvd_left n d)
  have e2 : d / Nat.gcd n d * Nat.gcd n d = d := Nat.div_mul_cancel (Nat.gcd_dvd_right n d)
  have e3 : iv (low neg n d).neg (n / Nat.gcd n d) * ((Nat.gcd n d : Nat) : Int) = iv neg n := by
    show iv (neg && decide (0 < n / Nat.gcd n d)) (n / Nat.gcd n d) * _ = _
    generalize n / Nat.gcd n d = u at e1 ⊢
    generalize Nat.gcd n d = g at e1 ⊢
    subst e1
    by_cases h0 : 0 < u
    · cases neg <;> simp [h0, iv, Int.neg_mul]
    · obtain rfl : u = 0 := by omega
      cases neg <;> simp [iv]
  unfold Rt.q
  show mkRat (iv (low neg n d).neg (n / Nat.gcd n d)) (d / Nat.gcd n d) = _
  rw [← Rat.mkRat_mul_right (a := Nat.gcd n d) (by omega), e3, e2]
theorem q_zero : zeroR.q = 0 := by decide
theorem q_of (n : Int) : (ofR n).q = (n : Rat) := by
  unfold Rt.q ofR iv
  have : (if decide (n < 0) = true then -((n.natAbs : Nat) : Int) else (n.natAbs : Nat)) = n := by
    by_cases h : n < 0
    · simp [h]; omega
    · simp [h]; omega
  simp only at this ⊢
  rw [this, Rat.mkRat_eq_div]
  grind
theorem q_neg (a : Rt) : (negR a).q = -a.q := by
  unfold Rt.q negR
  rw [Rat.neg_mkRat]
  congr 1
  unfold iv
  by_cases h : 0 < a.num
  · cases a.neg <;> simp [h]
  · have : a.num = 0 := by omega
    cases a.neg <;> simp [this]
theorem q_add {a b : Rt} (ha : a.Ok) (hb : b.Ok) : (addR a b).q = a.q + b.q := by
  have hd := Nat.mul_pos ha.pos hb.pos
  have e : a.q + b.q = mkRat (iv a.neg a.num * b.den + iv b.neg b.num * a.den) (a.den * b.den) := by
    unfold Rt.q
    rw [Rat.mkRat_add_mkRat _ _ (by have := ha.pos; omega) (by have := hb.pos; omega)]
  rw [e]
  unfold addR
  split
  · rename_i h
    rw [q_low _ hd]
    congr 1
    rw [h]
    unfold iv
    cases b.neg <;> simp [Int.neg_mul, Int.neg_add]
  · rename_i h
    split
    · rename_i h2
      rw [q_low _ hd]
      congr 1
      revert h
      have e1 : ((a.num * b.den - b.num * a.den : Nat) : Int) = (a.num : Int) * b.den - b.num * a.den := by rw [Int.ofNat_sub h2]; simp
      unfold iv
      cases a.neg <;> cases b.neg <;> simp only [reduceCtorEq, not_true_eq_false, not_false_eq_true, if_true, if_false, false_implies, forall_const, Bool.false_eq_true, Int.neg_mul, e1] <;> omega
    · rename_i h2
      rw [q_low _ hd]
      congr 1
      revert h
      have e1 : ((b.num * a.den - a.num * b.den : Nat) : Int) = (b.num : Int) * a.den - a.num * b.den := by rw [Int.ofNat_sub (Nat.le_of_lt (Nat.lt_of_not_le h2))]; simp
      unfold iv
      cases a.neg <;> cases b.neg <;> simp only [reduceCtorEq, not_true_eq_false, not_false_eq_true, if_true, if_false, false_implies, forall_const, Bool.false_eq_true, Int.neg_mul, e1] <;> omega
theorem q_mul {a b : Rt} (ha : a.Ok) (hb : b.Ok) : (mulR a b).q = a.q * b.q := by
  unfold mulR
  rw [q_low _ (Nat.mul_pos ha.pos hb.pos)]
  unfold Rt.q
  rw [Rat.mkRat_mul_mkRat, iv_mul]
theorem q_sub {a b : Rt} (ha : a.Ok) (hb : b.Ok) : (subR a b).q = a.q - b.q := by
  unfold subR
  rw [q_add ha (negR_ok hb), q_neg, Rat.sub_eq_add_neg]
theorem q_eq_zero {a : Rt} (ha : a.Ok) : a.q = 0 ↔ a.num = 0 := by
  unfold Rt.q
  rw [Rat.mkRat_eq_zero (by have := ha.pos; omega)]
  unfold iv
  cases a.neg <;> simp
theorem q_quo {a b : Rt} (ha : a.Ok) (hb : b.Ok) (h : b.num ≠ 0) : (quoR a b).q = a.q / b.q := by
  have hq : b.q ≠ 0 := fun e => h ((q_eq_zero hb).1 e)
  have e : (quoR a b).q * b.q = a.q := by
    unfold quoR
    rw [q_low _ (Nat.mul_pos ha.pos (by omega))]
    unfold Rt.q
    rw [Rat.mkRat_mul_mkRat, iv_mul]
    have : iv (((a.neg != b.neg)) != b.neg) (a.num * b.den * b.num) = iv a.neg a.num * ((b.num * b.den : Nat) : Int) := by
      unfold iv
      cases a.neg <;> cases b.neg <;> simp <;> grind
    rw [this]
    rw [show a.den * b.num * b.den = a.den * (b.num * b.den) by rw [Nat.mul_assoc]]
    exact Rat.mkRat_mul_right (by have := Nat.mul_pos (show 0 < b.num by omega) hb.pos; omega)
  rw [← e, Rat.mul_div_cancel hq]
theorem q_sgn {a : Rt} (ha : a.Ok) : (sgnR a = 0 ↔ a.q = 0) ∧ (sgnR a = 1 ↔ 0 < a.q) ∧ (sgnR a = -1 ↔ a.q < 0) := by
  refine ⟨?_, ?_, ?_⟩
  · rw [q_eq_zero ha]; unfold sgnR; split
    · simp_all
    · split <;> simp_all
  · rw [Rat.lt_iff, ha.qnum]
    unfold sgnR iv
    by_cases h : a.num = 0
    · simp [h]
    · cases a.neg <;> simp [h] <;> omega
  · rw [Rat.lt_iff, ha.qnum]
    unfold sgnR iv
    by_cases h : a.num = 0
    · simp [h]
    · cases a.neg <;> simp [h] <;> omega
theorem sgn_cases (a : Rt) : sgnR a = 0 ∨ sgnR a = 1 ∨ sgnR a = -1 := by
  unfold sgnR; split
  · exact .inl rfl
  · split
    · exact .inr (.inr rfl)
    · exact .inr (.inl rfl)
/-- the sign of a rational number -/
def sgQ (x : Rat) : Int := if x = 0 then 0 else if x < 0 then -1 else 1
theorem sgnR_q {a : Rt} (ha : a.Ok) : sgnR a = sgQ a.q := by
  obtain ⟨h0, h1, h2⟩ := q_sgn ha
  unfold sgQ
  rcases sgn_cases a with h | h | h
  · rw [h, if_pos (h0.1 h)]
  · have := h1.1 h
    rw [h, if_neg (fun e => by rw [e] at this; exact absurd this Rat.lt_irrefl), if_neg (by grind)]
  · have := h2.1 h
    rw [h, if_neg (fun e => by rw [e] at this; exact absurd this Rat.lt_irrefl), if_pos this]
theorem cmpR_q {a b : Rt} (ha : a.Ok) (hb : b.Ok) : cmpR a b = sgQ (a.q - b.q) := by
  unfold cmpR; rw [sgnR_q (subR_ok ha hb), q_sub ha hb]
theorem sgQ_zero : sgQ 0 = 0 := rfl
theorem sgQ_pos {x : Rat} (h : 0 < x) : sgQ x = 1 := by unfold sgQ; rw [if_neg (by grind), if_neg (by grind)]
theorem sgQ_neg {x : Rat} (h : x < 0) : sgQ x = -1 := by unfold sgQ; rw [if_neg (by grind), if_pos h]
theorem tri (x : Rat) : x = 0 ∨ 0 < x ∨ x < 0 := by grind
theorem sgQ_eq0 {x : Rat} : sgQ x = 0 ↔ x = 0 := by
  rcases tri x with h | h | h
  · subst h; exact ⟨fun _ => rfl, fun _ => rfl⟩
  · rw [sgQ_pos h]; exact ⟨fun e => (by cases e), fun e => by grind⟩
  · rw [sgQ_neg h]; exact ⟨fun e => (by cases e), fun e => by grind⟩
theorem sgQ_eq1 {x : Rat} : sgQ x = 1 ↔ 0 < x := by
  rcases tri x with h | h | h
  · subst h; exact ⟨fun e => (by cases e), fun e => by grind⟩
  · rw [sgQ_pos h]; exact ⟨fun _ => h, fun _ => rfl⟩
  · rw [sgQ_neg h]; exact ⟨fun e => (by cases e), fun e => by grind⟩
theorem sgQ_eqm {x : Rat} : sgQ x = -1 ↔ x < 0 := by
  rcases tri x with h | h | h
  · subst h; exact ⟨fun e => (by cases e), fun e => by grind⟩
  · rw [sgQ_pos h]; exact ⟨fun e => (by cases e), fun e => by grind⟩
  · rw [sgQ_neg h]; exact ⟨fun _ => h, fun _ => rfl⟩
theorem sgQ_lt0 {x : Rat} : sgQ x < 0 ↔ x < 0 := by
  rcases tri x with h | h | h
  · subst h; exact ⟨fun e => (by cases e), fun e => by grind⟩
  · rw [sgQ_pos h]; exact ⟨fun e => (by omega), fun e => by grind⟩
  · rw [sgQ_neg h]; exact ⟨fun _ => h, fun _ => by omega⟩
theorem sgQ_gt0 {x : Rat} : 0 < sgQ x ↔ 0 < x := by
  rcases tri x with h | h | h
  · subst h; exact ⟨fun e => (by cases e), fun e => by grind⟩
  · rw [sgQ_pos h]; exact ⟨fun _ => h, fun _ => by omega⟩
  · rw [sgQ_neg h]; exact ⟨fun e => (by omega), fun e => by grind⟩
theorem sgQ_le0 {x : Rat} : sgQ x ≤ 0 ↔ x ≤ 0 := by
  have h := sgQ_gt0 (x := x)
  constructor
  · intro h1; have : ¬ 0 < x := fun e => by have := h.2 e; omega
    grind
  · intro h1; have : ¬ 0 < sgQ x := fun e => by have := h.1 e; grind
    omega
theorem sgQ_ge0 {x : Rat} : 0 ≤ sgQ x ↔ 0 ≤ x := by
  have h := sgQ_lt0 (x := x)
  constructor
  · intro h1; have : ¬ x < 0 := fun e => by have := h.2 e; omega
    grind
  · intro h1; have : ¬ sgQ x < 0 := fun e => by have := h.1 e; grind
    omega
theorem sgQ_minus (x : Rat) : sgQ (-x) = -sgQ x := by
  rcases tri x with h | h | h
  · subst h; rfl
  · rw [sgQ_pos h, sgQ_neg (by grind)]
  · rw [sgQ_neg h, sgQ_pos (by grind)]; rfl
theorem sgQ_mul (x y : Rat) : sgQ (x * y) = sgQ x * sgQ y := by
  rcases tri x with h | h | h
  · subst h; rw [Rat.zero_mul, sgQ_zero, Int.zero_mul]
  · rcases tri y with k | k | k
    · subst k; rw [Rat.mul_zero, sgQ_zero, Int.mul_zero]
    · rw [sgQ_pos h, sgQ_pos k, sgQ_pos (Rat.mul_pos h k)]; rfl
    · rw [sgQ_pos h, sgQ_neg k, sgQ_neg (by have := Rat.mul_pos h (show 0 < -y by grind); grind)]; rfl
  · rcases tri y with k | k | k
    · subst k; rw [Rat.mul_zero, sgQ_zero, Int.mul_zero]
    · rw [sgQ_neg h, sgQ_pos k, sgQ_neg (by have := Rat.mul_pos (show 0 < -x by grind) k; grind)]; rfl
    · rw [sgQ_neg h, sgQ_neg k, sgQ_pos (by have := Rat.mul_pos (show 0 < -x by grind) (show 0 < -y by grind); grind)]; rfl
/-! the field -/
theorem addR_comm {a b : Rt} (ha : a.Ok) (hb : b.Ok) : addR a b = addR b a := q_inj (addR_ok ha hb) (addR_ok hb ha) (by rw [q_add ha hb, q_add hb ha]; grind)
theorem mulR_comm {a b : Rt} (ha : a.Ok) (hb : b.Ok) : mulR a b = mulR b a := q_inj (mulR_ok ha hb) (mulR_ok hb ha) (by rw [q_mul ha hb, q_mul hb ha]; grind)
theorem addR_assoc {a b c : Rt} (ha : a.Ok) (hb : b.Ok) (hc : c.Ok) : addR (addR a b) c = addR a (addR b c) :=
  q_inj (addR_ok (addR_ok ha hb) hc) (addR_ok ha (addR_ok hb hc)) (by rw [q_add (addR_ok ha hb) hc, q_add ha hb, q_add ha (addR_ok hb hc), q_add hb hc]; grind)
theorem mulR_assoc {a b c : Rt} (ha : a.Ok) (hb : b.Ok) (hc : c.Ok) : mulR (mulR a b) c = mulR a (mulR b c) :=
  q_inj (mulR_ok (mulR_ok ha hb) hc) (mulR_ok ha (mulR_ok hb hc)) (by rw [q_mul (mulR_ok ha hb) hc, q_mul ha hb, q_mul ha (mulR_ok hb hc), q_mul hb hc]; grind)
theorem mulR_addR {a b c : Rt} (ha : a.Ok) (hb : b.Ok) (hc : c.Ok) : mulR a (addR b c) = addR (mulR a b) (mulR a c) :=
  q_inj (mulR_ok ha (addR_ok hb hc)) (addR_ok (mulR_ok ha hb) (mulR_ok ha hc)) (by rw [q_mul ha (addR_ok hb hc), q_add hb hc, q_add (mulR_ok ha hb) (mulR_ok ha hc), q_mul ha hb, q_mul ha hc]; grind)
theorem addR_zero {a : Rt} (ha : a.Ok) : addR a zeroR = a := q_inj (addR_ok ha zeroR_ok) ha (by rw [q_add ha zeroR_ok, q_zero]; grind)
theorem zero_addR {a : Rt} (ha : a.Ok) : addR zeroR a = a := q_inj (addR_ok zeroR_ok ha) ha (by rw [q_add zeroR_ok ha, q_zero]; grind)
theorem mulR_one {a : Rt} (ha : a.Ok) : mulR a (ofR 1) = a := q_inj (mulR_ok ha (ofR_ok 1)) ha (by rw [q_mul ha (ofR_ok 1), q_of]; grind)
theorem addR_negR {a : Rt} (ha : a.Ok) : addR a (negR a) = zeroR := q_inj (addR_ok ha (negR_ok ha)) zeroR_ok (by rw [q_add ha (negR_ok ha), q_neg, q_zero]; grind)
theorem quoR_mulR {a b : Rt} (ha : a.Ok) (hb : b.Ok) (h : b.num ≠ 0) : mulR (quoR a b) b = a :=
  q_inj (mulR_ok (quoR_ok ha (by omega)) hb) ha (by rw [q_mul (quoR_ok ha (by omega)) hb, q_quo ha hb h, Rat.div_mul_cancel (fun e => h ((q_eq_zero hb).1 e))])
theorem num_zero_iff {b : Rt} (hb : b.Ok) : b.num = 0 ↔ b = zeroR := ⟨fun h => hb.zero h, fun h => by rw [h]; rfl⟩
/-! the order -/
theorem cmpR_swap {a b : Rt} (ha : a.Ok) (hb : b.Ok) : cmpR a b = -cmpR b a := by
  rw [cmpR_q ha hb, cmpR_q hb ha, ← sgQ_minus]; congr 1; grind
theorem cmpR_eq {a b : Rt} (ha : a.Ok) (hb : b.Ok) : cmpR a b = 0 ↔ a = b := by
  rw [cmpR_q ha hb, sgQ_eq0, q_iff ha hb]; grind
theorem cmpR_trans {a b c : Rt} (ha : a.Ok) (hb : b.Ok) (hc : c.Ok) (h1 : ¬ cmpR a b < 0) (h2 : ¬ cmpR b c < 0) : 0 ≤ cmpR a c := by
  rw [cmpR_q ha hb, sgQ_lt0] at h1; rw [cmpR_q hb hc, sgQ_lt0] at h2; rw [cmpR_q ha hc, sgQ_ge0]; grind
theorem cmpR_add {a b c : Rt} (ha : a.Ok) (hb : b.Ok) (hc : c.Ok) : cmpR (addR a c) (addR b c) = cmpR a b := by
  rw [cmpR_q (addR_ok ha hc) (addR_ok hb hc), cmpR_q ha hb, q_add ha hc, q_add hb hc]; congr 1; grind
theorem cmpR_mul {a b c : Rt} (ha : a.Ok) (hb : b.Ok) (hc : c.Ok) : cmpR (mulR a c) (mulR b c) = cmpR a b * sgnR c := by
  rw [cmpR_q (mulR_ok ha hc) (mulR_ok hb hc), cmpR_q ha hb, q_mul ha hc, q_mul hb hc, sgnR_q hc, ← sgQ_mul]; congr 1; grind
theorem sgnR_sub {a b : Rt} : sgnR (subR a b) = cmpR a b := rfl
theorem cmpR_zero {a : Rt} (ha : a.Ok) : cmpR a zeroR = sgnR a := by
  rw [cmpR_q ha zeroR_ok, sgnR_q ha, q_zero]; congr 1; grind
end Go.Proofs.YtancflpioigjbaaGreatDoor
