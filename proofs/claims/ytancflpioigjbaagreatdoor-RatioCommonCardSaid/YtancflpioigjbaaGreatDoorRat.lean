/- Plain laws of rational numbers: no program in sight. -/
import Derived.Test.YtancflpioigjbaaGreatDoorApiE
namespace Go.Proofs.YtancflpioigjbaaGreatDoor
open Go.RowKit Go.Shelf
open Dgt
set_option linter.unusedVariables false

/-- a number: whether it is negative, a numerator, a denominator -/
structure Rt where
  neg : Bool
  num : Nat
  den : Nat
theorem Rt.ext' {a b : Rt} (h1 : a.neg = b.neg) (h2 : a.num = b.num) (h3 : a.den = b.den) : a = b := by
  cases a; cases b; simp_all
structure Rt.Ok (a : Rt) : Prop where
  pos : 0 < a.den
  one : Nat.gcd a.num a.den = 1
  nz : a.neg = true → 0 < a.num
def zeroR : Rt := ⟨false, 0, 1⟩
theorem zeroR_ok : zeroR.Ok := ⟨by decide, by decide, fun h => by cases h⟩
/-- the lowest terms -/
def low (neg : Bool) (n d : Nat) : Rt := ⟨neg && decide (0 < n / Nat.gcd n d), n / Nat.gcd n d, d / Nat.gcd n d⟩
theorem low_ok (neg : Bool) {n d : Nat} (hd : 0 < d) : (low neg n d).Ok := by
  have hg : 0 < Nat.gcd n d := Nat.gcd_pos_of_pos_right n hd
  refine ⟨Nat.div_pos (Nat.le_of_dvd hd (Nat.gcd_dvd_right n d)) hg, ?_, fun h => ?_⟩
  · show Nat.gcd (n / Nat.gcd n d) (d / Nat.gcd n d) = 1
    rw [Nat.gcd_div (Nat.gcd_dvd_left n d) (Nat.gcd_dvd_right n d), Nat.div_self hg]
  simp only [low, Bool.and_eq_true, decide_eq_true_eq] at h
  exact h.2
theorem low_self {a : Rt} (h : a.Ok) : low a.neg a.num a.den = a := by
  refine Rt.ext' ?_ ?_ ?_
  · simp only [low, h.one, Nat.div_one]
    cases hn : a.neg
    · rfl
    · simp [h.nz hn]
  · simp only [low, h.one, Nat.div_one]
  · simp only [low, h.one, Nat.div_one]
theorem low_zero (neg : Bool) {d : Nat} (hd : 0 < d) : low neg 0 d = zeroR := by
  refine Rt.ext' ?_ ?_ ?_
  · simp [low, zeroR]
  · simp [low, zeroR]
  · simp [low, zeroR, Nat.gcd_zero_left, Nat.div_self hd]
theorem low_num_pos {neg : Bool} {n d : Nat} (hn : 0 < n) : 0 < n / Nat.gcd n d :=
  Nat.div_pos (Nat.le_of_dvd hn (Nat.gcd_dvd_left n d)) (Nat.gcd_pos_of_pos_left d hn)
theorem low_neg {neg : Bool} {n d : Nat} (hn : 0 < n) : (low neg n d).neg = neg := by
  simp [low, low_num_pos (neg := neg) (d := d) hn]
theorem Rt.Ok.zero {a : Rt} (h : a.Ok) (h0 : a.num = 0) : a = zeroR := by
  refine Rt.ext' ?_ h0 ?_
  · cases hn : a.neg
    · rfl
    · have := h.nz hn; omega
  · have := h.one; rw [h0, Nat.gcd_zero_left] at this; exact this

def negR (a : Rt) : Rt := ⟨!a.neg && decide (0 < a.num), a.num, a.den⟩
def addR (a b : Rt) : Rt :=
  if a.neg = b.neg then low a.neg (a.num * b.den + b.num * a.den) (a.den * b.den)
  else if b.num * a.den ≤ a.num * b.den then low a.neg (a.num * b.den - b.num * a.den) (a.den * b.den)
  else low b.neg (b.num * a.den - a.num * b.den) (a.den * b.den)
def mulR (a b : Rt) : Rt := low (a.neg != b.neg) (a.num * b.num) (a.den * b.den)
def quoR (a b : Rt) : Rt := low (a.neg != b.neg) (a.num * b.den) (a.den * b.num)
def subR (a b : Rt) : Rt := addR a (negR b)
def sgnR (a : Rt) : Int := if a.num = 0 then 0 else if a.neg then -1 else 1
def cmpR (a b : Rt) : Int := sgnR (subR a b)
def ofR (n : Int) : Rt := ⟨decide (n < 0), n.natAbs, 1⟩
theorem negR_ok {a : Rt} (h : a.Ok) : (negR a).Ok := ⟨h.pos, h.one, fun e => by simpa [negR] using (by simpa [negR] using e : a.neg = false ∧ 0 < a.num).2⟩
theorem addR_ok {a b : Rt} (ha : a.Ok) (hb : b.Ok) : (addR a b).Ok := by
  have := Nat.mul_pos ha.pos hb.pos
  unfold addR; split
  · exact low_ok _ this
  · split <;> exact low_ok _ this
theorem mulR_ok {a b : Rt} (ha : a.Ok) (hb : b.Ok) : (mulR a b).Ok := low_ok _ (Nat.mul_pos ha.pos hb.pos)
theorem quoR_ok {a b : Rt} (ha : a.Ok) (hb : 0 < b.num) : (quoR a b).Ok := low_ok _ (Nat.mul_pos ha.pos hb)
theorem subR_ok {a b : Rt} (ha : a.Ok) (hb : b.Ok) : (subR a b).Ok := addR_ok ha (negR_ok hb)
theorem ofR_ok (n : Int) : (ofR n).Ok := ⟨Nat.one_pos, Nat.gcd_one_right _, fun h => by simp [ofR] at h; simp [ofR]; omega⟩

/-! ### sizes -/
def Rz (a : Rt) (k : Nat) : Prop := Sz a.num k ∧ Sz a.den k
theorem Rz.mono {a : Rt} {k j : Nat} (h : Rz a k) (hj : k ≤ j) : Rz a j := ⟨h.1.mono hj, h.2.mono hj⟩
theorem low_sz {neg : Bool} {n d k : Nat} (hn : Sz n k) (hd : Sz d k) : Rz (low neg n d) k := ⟨hn.div _, hd.div _⟩
theorem negR_sz {a : Rt} {k : Nat} (h : Rz a k) : Rz (negR a) k := h
theorem addR_sz {a b : Rt} {i j : Nat} (ha : Rz a i) (hb : Rz b j) : Rz (addR a b) (i + j + 1) := by
  have h1 := ha.1.mul hb.2; have h2 := hb.1.mul ha.2; have h3 := (ha.2.mul hb.2).mono (Nat.le_succ _)
  rw [Nat.add_comm j i] at h2
  unfold addR; split
  · exact low_sz (h1.add h2) h3
  · split
    · exact low_sz ((h1.sub _).mono (Nat.le_succ _)) h3
    · exact low_sz ((h2.sub _).mono (Nat.le_succ _)) h3
theorem mulR_sz {a b : Rt} {i j : Nat} (ha : Rz a i) (hb : Rz b j) : Rz (mulR a b) (i + j) := low_sz (ha.1.mul hb.1) (ha.2.mul hb.2)
theorem quoR_sz {a b : Rt} {i j : Nat} (ha : Rz a i) (hb : Rz b j) : Rz (quoR a b) (i + j) := low_sz (ha.1.mul hb.2) (ha.2.mul hb.1)
theorem subR_sz {a b : Rt} {i j : Nat} (ha : Rz a i) (hb : Rz b j) : Rz (subR a b) (i + j + 1) := addR_sz ha (negR_sz hb)
theorem zeroR_sz : Rz zeroR 1 := ⟨by unfold Sz zeroR; decide, by unfold Sz zeroR; decide⟩
theorem ofR_sz {n : Int} (h1 : -9223372036854775808 ≤ n) (h2 : n ≤ 9223372036854775807) : Rz (ofR n) 8 := ⟨by unfold Sz ofR; simp only; omega, (show Sz 1 8 by unfold Sz; decide)⟩

/-! ### values -/
def ratV (neg : Bool) (n d : ByteArray) : Value := .agg #[.bool neg, .string n, .string d]
def rtV (a : Rt) : Value := .agg #[.bool a.neg, .string (encS a.num), .string (encS a.den)]
/-- which raw numbers are right -/
def rightR (neg : Bool) (n d : ByteArray) : Bool := rightN n && rightN d && decide (0 < numS d) && decide (Nat.gcd (numS n) (numS d) = 1) && (!neg || decide (0 < numS n))
def valQ (neg : Bool) (n d : ByteArray) : Rt := if rightR neg n d = true then ⟨neg, numS n, numS d⟩ else zeroR
theorem rightN_eq {a : ByteArray} (h : rightN a = true) : encS (numS a) = a := by simpa [rightN] using h
theorem rightR_iff {neg : Bool} {n d : ByteArray} : rightR neg n d = true ↔ (rightN n = true ∧ rightN d = true ∧ (⟨neg, numS n, numS d⟩ : Rt).Ok) := by
  unfold rightR
  simp only [Bool.and_eq_true, decide_eq_true_eq, Bool.or_eq_true, Bool.not_eq_true']
  constructor
  · rintro ⟨⟨⟨⟨h1, h2⟩, h3⟩, h4⟩, h5⟩
    exact ⟨h1, h2, h3, h4, fun e => by rcases h5 with h | h; rw [show neg = true from e] at h; cases h; exact h⟩
  · rintro ⟨h1, h2, h⟩
    exact ⟨⟨⟨⟨h1, h2⟩, h.pos⟩, h.one⟩, by cases hn : neg; exact .inl rfl; exact .inr (h.nz hn)⟩
theorem valQ_ok (neg : Bool) (n d : ByteArray) : (valQ neg n d).Ok := by
  unfold valQ
  split
  · rename_i h; exact (rightR_iff.1 h).2.2
  · exact zeroR_ok
theorem valQ_sz {neg : Bool} {n d : ByteArray} {k : Nat} (hk : 1 ≤ k) (hn : n.size ≤ k) (hd : d.size ≤ k) : Rz (valQ neg n d) k := by
  unfold valQ
  split
  · exact ⟨(Sz.num n).mono hn, (Sz.num d).mono hd⟩
  · exact zeroR_sz.mono hk
theorem ratV_right {neg : Bool} {n d : ByteArray} (h : rightR neg n d = true) : ratV neg n d = rtV (valQ neg n d) := by
  obtain ⟨h1, h2, -⟩ := rightR_iff.1 h
  unfold ratV rtV valQ
  rw [if_pos h]
  simp only [rightN_eq h1, rightN_eq h2]
theorem rightR_of {a : Rt} (h : a.Ok) : rightR a.neg (encS a.num) (encS a.den) = true :=
  rightR_iff.2 ⟨right_enc _, right_enc _, by rw [numS_encS, numS_encS]; exact h⟩
theorem valQ_of {a : Rt} (h : a.Ok) : valQ a.neg (encS a.num) (encS a.den) = a := by
  unfold valQ
  rw [if_pos (rightR_of h), numS_encS, numS_encS]
theorem rtV_inj {a b : Rt} (h : rtV a = rtV b) : a = b := by
  unfold rtV at h
  simp only [Value.agg.injEq, Array.mk.injEq, List.cons.injEq, Value.bool.injEq, Value.string.injEq, and_true] at h
  exact Rt.ext' h.1 (encS_inj h.2.1) (encS_inj h.2.2)
end Go.Proofs.YtancflpioigjbaaGreatDoor
