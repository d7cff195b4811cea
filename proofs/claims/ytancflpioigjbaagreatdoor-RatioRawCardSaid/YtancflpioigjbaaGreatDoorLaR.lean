/- RatioRaw: the walk. Each theorem names its conditions. -/
import Derived.Test.YtancflpioigjbaaGreatDoorRaH
namespace Go.Proofs.YtancflpioigjbaaGreatDoor.ratioRaw
open Go.RowKit Go.Shelf
open Dgt
set_option linter.unusedVariables false

theorem cut_size (s : ByteArray) (k : Nat) (hk : k ≤ 20) : (s.extract 0 k).size ≤ 20 := by
  rw [ByteArray.size_extract]; omega
theorem row_set1 {W : World} {b : Nat} {x0 x1 x2 : Value} {t : TypeId} (h : W.heap[b]? = some (.cells #[x0, x1, x2] t (0, 0))) (u : Value) : (W.setCell ⟨b, 1, none⟩ u).heap[b]? = some (.cells #[x0, u, x2] t (0, 0)) := by
  simp [World.setCell, Array.getElem?_modify, h]
theorem row_set2 {W : World} {b : Nat} {x0 x1 x2 : Value} {t : TypeId} (h : W.heap[b]? = some (.cells #[x0, x1, x2] t (0, 0))) (u : Value) : (W.setCell ⟨b, 2, none⟩ u).heap[b]? = some (.cells #[x0, x1, u] t (0, 0)) := by
  simp [World.setCell, Array.getElem?_modify, h]
theorem row_other {W : World} {b g k : Nat} {o : Obj} (h : W.heap[g]? = some o) (hne : b ≠ g) (u : Value) : (W.setCell ⟨b, k, none⟩ u).heap[g]? = some o := by
  simp [World.setCell, Array.getElem?_modify, hne, h]
def ES8 (bi0 bi1 b6 b8 : Nat) (na nb qn qu rr : Bool) (ca da cb db qs qd : ByteArray) (su d p : Rt) : Nat → Value
  | 0 => .agg #[.bool na, .string ca, .string da]
  | 1 => .bool rr
  | 2 => .agg #[.bool na, .string ca, .string da]
  | 3 => .bool rr
  | 4 => .bool true
  | 5 => .bool true
  | 6 => .agg #[.bool na, .string ca, .string da]
  | 7 => .agg #[.bool nb, .string cb, .string db]
  | 8 => .agg #[.bool su.neg, .string (encS su.num), .string (encS su.den)]
  | 9 => .agg #[.bool na, .string ca, .string da]
  | 10 => .agg #[.bool nb, .string cb, .string db]
  | 11 => .agg #[.bool su.neg, .string (encS su.num), .string (encS su.den)]
  | 12 => .bool true
  | 13 => .bool true
  | 14 => .bool true
  | 15 => .agg #[.bool na, .string ca, .string da]
  | 16 => .agg #[.bool nb, .string cb, .string db]
  | 17 => .agg #[.bool d.neg, .string (encS d.num), .string (encS d.den)]
  | 18 => .agg #[.bool na, .string ca, .string da]
  | 19 => .agg #[.bool nb, .string cb, .string db]
  | 20 => .agg #[.bool d.neg, .string (encS d.num), .string (encS d.den)]
  | 21 => .bool true
  | 22 => .bool true
  | 23 => .bool true
  | 24 => .agg #[.bool na, .string ca, .string da]
  | 25 => .agg #[.bool nb, .string cb, .string db]
  | 26 => .agg #[.bool p.neg, .string (encS p.num), .string (encS p.den)]
  | 27 => .agg #[.bool na, .string ca, .string da]
  | 28 => .agg #[.bool nb, .string cb, .string db]
  | 29 => .agg #[.bool p.neg, .string (encS p.num), .string (encS p.den)]
  | 30 => .bool true
  | 31 => .bool true
  | 32 => .bool true
  | 33 => .agg #[.bool qn, .string qs, .string qd]
  | 34 => .agg #[.bool qn, .string qs, .string qd]
  | 35 => .bool true
  | 36 => .bool true
  | 37 => .bool true
  | 38 => .bool qu
  | 39 => .bool qu
  | 40 => .bool true
  | 41 => .bool true
  | 42 => .bool true
  | _ => undef
def SS8 (bi0 bi1 b6 b8 : Nat) (na nb qn qu rr : Bool) (ca da cb db qs qd : ByteArray) (su d p : Rt) (ix : Nat) (v : Value) (w : World) : Prop :=
  match ix with
  | ix => v = ES8 bi0 bi1 b6 b8 na nb qn qu rr ca da cb db qs qd su d p ix
theorem SS8_up (bi0 bi1 b6 b8 : Nat) (na nb qn qu rr : Bool) (ca da cb db qs qd : ByteArray) (su d p : Rt) (ix : Nat) (v : Value) (w w' : World) (hb : Below w.heap.size w w') (h : SS8 bi0 bi1 b6 b8 na nb qn qu rr ca da cb db qs qd su d p ix v w) : SS8 bi0 bi1 b6 b8 na nb qn qu rr ca da cb db qs qd su d p ix v w' := by
  exact h

def ES9 (bi0 bi1 : Nat) (na nb : Bool) (ca da cb db ts : ByteArray) (ng : Rt) (cm sg : Int) : Nat → Value
  | 0 => .agg #[.bool na, .string ca, .string da]
  | 1 => .agg #[.bool nb, .string cb, .string db]
  | 2 => .int .i64 cm
  | 3 => .agg #[.bool na, .string ca, .string da]
  | 4 => .agg #[.bool nb, .string cb, .string db]
  | 5 => .int .i64 cm
  | 6 => .bool true
  | 7 => .bool true
  | 8 => .agg #[.bool na, .string ca, .string da]
  | 9 => .int .i64 sg
  | 10 => .agg #[.bool na, .string ca, .string da]
  | 11 => .int .i64 sg
  | 12 => .bool true
  | 13 => .bool true
  | 14 => .bool true
  | 15 => .agg #[.bool na, .string ca, .string da]
  | 16 => .agg #[.bool ng.neg, .string (encS ng.num), .string (encS ng.den)]
  | 17 => .agg #[.bool na, .string ca, .string da]
  | 18 => .agg #[.bool ng.neg, .string (encS ng.num), .string (encS ng.den)]
  | 19 => .bool true
  | 20 => .bool true
  | 21 => .bool true
  | 22 => .agg #[.bool na, .string ca, .string da]
  | 23 => .string ts
  | 24 => .agg #[.bool na, .string ca, .string da]
  | 25 => .string ts
  | 26 => .bool true
  | 27 => .bool true
  | 28 => .bool true
  | _ => undef
def SS9 (bi0 bi1 : Nat) (na nb : Bool) (ca da cb db ts : ByteArray) (ng : Rt) (cm sg : Int) (ix : Nat) (v : Value) (w : World) : Prop :=
  match ix with
  | ix => v = ES9 bi0 bi1 na nb ca da cb db ts ng cm sg ix
theorem SS9_up (bi0 bi1 : Nat) (na nb : Bool) (ca da cb db ts : ByteArray) (ng : Rt) (cm sg : Int) (ix : Nat) (v : Value) (w w' : World) (hb : Below w.heap.size w w') (h : SS9 bi0 bi1 na nb ca da cb db ts ng cm sg ix v w) : SS9 bi0 bi1 na nb ca da cb db ts ng cm sg ix v w' := by
  exact h

def ES10 (bi0 bi1 : Nat) (na nb : Bool) (ca da cb db : ByteArray) (su ng sm : Rt) : Nat → Value
  | 0 => .bool true
  | 1 => .bool true
  | 2 => .bool true
  | 3 => .bool true
  | 4 => .bool true
  | 5 => .bool true
  | 6 => .bool true
  | 7 => .bool true
  | 8 => .agg #[.bool na, .string ca, .string da]
  | 9 => .agg #[.bool nb, .string cb, .string db]
  | 10 => .agg #[.bool su.neg, .string (encS su.num), .string (encS su.den)]
  | 11 => .bool true
  | 12 => .bool true
  | 13 => .bool true
  | 14 => .agg #[.bool na, .string ca, .string da]
  | 15 => .agg #[.bool ng.neg, .string (encS ng.num), .string (encS ng.den)]
  | 16 => .bool true
  | 17 => .bool true
  | 18 => .bool true
  | 19 => .agg #[.bool na, .string ca, .string da]
  | 20 => .agg #[.bool nb, .string cb, .string db]
  | 21 => .agg #[.bool na, .string ca, .string da]
  | 23 => .agg #[.bool sm.neg, .string (encS sm.num), .string (encS sm.den)]
  | 24 => .agg #[.bool na, .string ca, .string da]
  | 25 => .agg #[.bool nb, .string cb, .string db]
  | 26 => .agg #[.bool na, .string ca, .string da]
  | 28 => .agg #[.bool sm.neg, .string (encS sm.num), .string (encS sm.den)]
  | 29 => .bool true
  | 30 => .bool true
  | 31 => .bool true
  | _ => undef
def SS10 (bi0 bi1 : Nat) (na nb : Bool) (ca da cb db : ByteArray) (su ng sm : Rt) (ix : Nat) (v : Value) (w : World) : Prop :=
  match ix with
  | 22 => LstR w v [⟨na, ca, da⟩, ⟨nb, cb, db⟩, ⟨na, ca, da⟩]
  | 27 => LstR w v [⟨na, ca, da⟩, ⟨nb, cb, db⟩, ⟨na, ca, da⟩]
  | ix => v = ES10 bi0 bi1 na nb ca da cb db su ng sm ix
theorem SS10_up (bi0 bi1 : Nat) (na nb : Bool) (ca da cb db : ByteArray) (su ng sm : Rt) (ix : Nat) (v : Value) (w w' : World) (hb : Below w.heap.size w w') (h : SS10 bi0 bi1 na nb ca da cb db su ng sm ix v w) : SS10 bi0 bi1 na nb ca da cb db su ng sm ix v w' := by
  unfold SS10 at h ⊢
  split at h
  · exact LstR.up h hb
  · exact LstR.up h hb
  · exact h
set_option maxHeartbeats 4000000 in
set_option maxRecDepth 100000 in
theorem walk (na nb : Bool) (sa ta sb tb : ByteArray) (wq : World) (zsa : (sa.size : Int) ≤ 9223372036854775807) (zta : (ta.size : Int) ≤ 9223372036854775807) (zsb : (sb.size : Int) ≤ 9223372036854775807) (ztb : (tb.size : Int) ≤ 9223372036854775807) (htab : Lib.TabIs Tryz.prog wq "internal/strconv.uint64pow10" .u64 Lib.pow10Tab) (m0 : Int) (hm : wq.cell? ⟨0, 0, none⟩ = some (.int .i64 m0)) :
    Calls Tryz.prog 9 #[.agg #[.bool na, .string sa, .string ta], .agg #[.bool nb, .string sb, .string tb]] wq fun e w' => e = .returned (.bool true) ∧ Below wq.heap.size wq w' := by
  have HB := Lib.hid (Below.refl wq.heap.size wq)
  have HT := Lib.hid (Lib.tabBelow_of_tabIs htab)
  have HSAN := Lib.hid (fun W (h : Below wq.heap.size wq W) => sanity_any W (HT.out.on h).here m0 (cell_zero (W := W) hm h))
  obtain ⟨k0, hk0⟩ : ∃ k : Nat, min (sa.size : Int) 20 = (k : Int) := ⟨(min (sa.size : Int) 20).toNat, by omega⟩
  obtain ⟨ca, hca⟩ : ∃ c, sa.extract 0 k0 = c := ⟨_, rfl⟩
  have zca : ca.size ≤ 20 := by rw [← hca]; exact cut_size _ _ (by omega)
  have lk0 : (0 : Int) ≤ ((k0 : Nat) : Int) ∧ ((k0 : Nat) : Int) ≤ (sa.size : Int) := by omega
  have Pk0 := Lib.hid (And.intro hk0 (And.intro hca lk0))
  obtain ⟨k1, hk1⟩ : ∃ k : Nat, min (ta.size : Int) 20 = (k : Int) := ⟨(min (ta.size : Int) 20).toNat, by omega⟩
  obtain ⟨da, hda⟩ : ∃ c, ta.extract 0 k1 = c := ⟨_, rfl⟩
  have zda : da.size ≤ 20 := by rw [← hda]; exact cut_size _ _ (by omega)
  have lk1 : (0 : Int) ≤ ((k1 : Nat) : Int) ∧ ((k1 : Nat) : Int) ≤ (ta.size : Int) := by omega
  have Pk1 := Lib.hid (And.intro hk1 (And.intro hda lk1))
  obtain ⟨k2, hk2⟩ : ∃ k : Nat, min (sb.size : Int) 20 = (k : Int) := ⟨(min (sb.size : Int) 20).toNat, by omega⟩
  obtain ⟨cb, hcb⟩ : ∃ c, sb.extract 0 k2 = c := ⟨_, rfl⟩
  have zcb : cb.size ≤ 20 := by rw [← hcb]; exact cut_size _ _ (by omega)
  have lk2 : (0 : Int) ≤ ((k2 : Nat) : Int) ∧ ((k2 : Nat) : Int) ≤ (sb.size : Int) := by omega
  have Pk2 := Lib.hid (And.intro hk2 (And.intro hcb lk2))
  obtain ⟨k3, hk3⟩ : ∃ k : Nat, min (tb.size : Int) 20 = (k : Int) := ⟨(min (tb.size : Int) 20).toNat, by omega⟩
  obtain ⟨db, hdb⟩ : ∃ c, tb.extract 0 k3 = c := ⟨_, rfl⟩
  have zdb : db.size ≤ 20 := by rw [← hdb]; exact cut_size _ _ (by omega)
  have lk3 : (0 : Int) ≤ ((k3 : Nat) : Int) ∧ ((k3 : Nat) : Int) ≤ (tb.size : Int) := by omega
  have Pk3 := Lib.hid (And.intro hk3 (And.intro hdb lk3))
  obtain ⟨ra, h_ra⟩ : ∃ r, valQ na ca da = r := ⟨_, rfl⟩
  obtain ⟨rb, h_rb⟩ : ∃ r, valQ nb cb db = r := ⟨_, rfl⟩
  have ia : IsR (.agg #[.bool na, .string ca, .string da]) ra 1000 := ⟨_, _, _, rfl, by omega, by omega, h_ra⟩
  have ib : IsR (.agg #[.bool nb, .string cb, .string db]) rb 1000 := ⟨_, _, _, rfl, by omega, by omega, h_rb⟩
  have o_ra : ra.Ok := by rw [← h_ra]; exact valQ_ok _ _ _
  have z_ra : Rz ra 20 := by rw [← h_ra]; exact valQ_sz (by decide) zca zda
  have o_rb : rb.Ok := by rw [← h_rb]; exact valQ_ok _ _ _
  have z_rb : Rz rb 20 := by rw [← h_rb]; exact valQ_sz (by decide) zcb zdb
  obtain ⟨su, h_su⟩ : ∃ t, addR ra rb = t := ⟨_, rfl⟩
  have o_su : su.Ok := by rw [← h_su]; exact addR_ok o_ra o_rb
  have z_su : Rz su 41 := by rw [← h_su]; exact addR_sz z_ra z_rb
  obtain ⟨d, h_d⟩ : ∃ t, subR ra rb = t := ⟨_, rfl⟩
  have o_d : d.Ok := by rw [← h_d]; exact subR_ok o_ra o_rb
  have z_d : Rz d 41 := by rw [← h_d]; exact subR_sz z_ra z_rb
  obtain ⟨p, h_p⟩ : ∃ t, mulR ra rb = t := ⟨_, rfl⟩
  have o_p : p.Ok := by rw [← h_p]; exact mulR_ok o_ra o_rb
  have z_p : Rz p 40 := by rw [← h_p]; exact mulR_sz z_ra z_rb
  obtain ⟨ng, h_ng⟩ : ∃ t, negR ra = t := ⟨_, rfl⟩
  have o_ng : ng.Ok := by rw [← h_ng]; exact negR_ok o_ra
  have z_ng : Rz ng 20 := by rw [← h_ng]; exact negR_sz z_ra
  obtain ⟨cm, h_cm⟩ : ∃ t, cmpR ra rb = t := ⟨_, rfl⟩
  obtain ⟨sg, h_sg⟩ : ∃ t, sgnR ra = t := ⟨_, rfl⟩
  obtain ⟨ts, h_ts⟩ : ∃ t, textS ra = t := ⟨_, rfl⟩
  obtain ⟨rr, h_rr⟩ : ∃ t, rightR na ca da = t := ⟨_, rfl⟩
  obtain ⟨qn, qs, qd, qu, h_q⟩ : ∃ n s d u, quoV ra rb = .tuple #[.agg #[.bool n, .string s, .string d], .bool u] := by unfold quoV; split <;> exact ⟨_, _, _, _, rfl⟩
  have C1 : Hid (∀ w, Calls Tryz.prog 27 #[.agg #[.bool na, .string ca, .string da], .agg #[.bool nb, .string cb, .string db]] w fun e w' => e = .returned (.agg #[.bool su.neg, .string (encS su.num), .string (encS su.den)]) ∧ Below w.heap.size w w') := Lib.hid fun w => by
    have h := RatAdd_r ia ib (by decide) (by decide) w
    rw [h_su] at h
    exact h
  have C2 : Hid (∀ w, Calls Tryz.prog 32 #[.agg #[.bool na, .string ca, .string da], .agg #[.bool nb, .string cb, .string db]] w fun e w' => e = .returned (.agg #[.bool d.neg, .string (encS d.num), .string (encS d.den)]) ∧ Below w.heap.size w w') := Lib.hid fun w => by
    have h := RatSub_r ia ib (by decide) (by decide) w
    rw [h_d] at h
    exact h
  have C3 : Hid (∀ w, Calls Tryz.prog 29 #[.agg #[.bool na, .string ca, .string da], .agg #[.bool nb, .string cb, .string db]] w fun e w' => e = .returned (.agg #[.bool p.neg, .string (encS p.num), .string (encS p.den)]) ∧ Below w.heap.size w w') := Lib.hid fun w => by
    have h := RatMul_r ia ib (by decide) (by decide) w
    rw [h_p] at h
    exact h
  have C4 : Hid (∀ w, Calls Tryz.prog 37 #[.agg #[.bool na, .string ca, .string da], .agg #[.bool nb, .string cb, .string db]] w fun e w' => e = .returned (.int .i64 cm) ∧ Below w.heap.size w w') := Lib.hid fun w => by
    have h := RatCmp_r ia ib (by decide) (by decide) w
    rw [h_cm] at h
    exact h
  have C5 : Hid (∀ w, Calls Tryz.prog 31 #[.agg #[.bool na, .string ca, .string da], .agg #[.bool nb, .string cb, .string db]] w fun e w' => e = .returned (.tuple #[.agg #[.bool qn, .string qs, .string qd], .bool qu]) ∧ Below w.heap.size w w') := Lib.hid fun w => by
    have h := RatQuo_r ia ib (by decide) (by decide) w
    rw [h_q] at h
    exact h
  have C6 : Hid (∀ w, Calls Tryz.prog 30 #[.agg #[.bool na, .string ca, .string da]] w fun e w' => e = .returned (.agg #[.bool ng.neg, .string (encS ng.num), .string (encS ng.den)]) ∧ Below w.heap.size w w') := Lib.hid fun w => by
    have h := RatNeg_r ia (by decide) w
    rw [h_ng] at h
    exact h
  have C7 : Hid (∀ w, Calls Tryz.prog 39 #[.agg #[.bool na, .string ca, .string da]] w fun e w' => e = .returned (.int .i64 sg) ∧ Below w.heap.size w w') := Lib.hid fun w => by
    have h := RatSign_r ia (by decide) w
    rw [h_sg] at h
    exact h
  have C8 : Hid (∀ w, Calls Tryz.prog 17 #[.agg #[.bool na, .string ca, .string da]] w fun e w' => e = .returned (.bool rr) ∧ Below w.heap.size w w') := Lib.hid fun w => by
    have h := (fun w => RatRight_any na ca da w (by omega) (by omega)) w
    rw [h_rr] at h
    exact h
  have C9 : Hid (∀ w, Calls Tryz.prog 34 #[.agg #[.bool na, .string ca, .string da], .agg #[.bool nb, .string cb, .string db]] w fun e w' => e = .returned (.agg #[.bool su.neg, .string (encS su.num), .string (encS su.den)]) ∧ Below w.heap.size w w') := Lib.hid fun w => by
    have h := rRatAdd_r ia ib (by decide) (by decide) w
    rw [h_su] at h
    exact h
  have C10 : Hid (∀ w, Calls Tryz.prog 35 #[.agg #[.bool na, .string ca, .string da], .agg #[.bool nb, .string cb, .string db]] w fun e w' => e = .returned (.agg #[.bool d.neg, .string (encS d.num), .string (encS d.den)]) ∧ Below w.heap.size w w') := Lib.hid fun w => by
    have h := rRatSub_r ia ib (by decide) (by decide) w
    rw [h_d] at h
    exact h
  have C11 : Hid (∀ w, Calls Tryz.prog 36 #[.agg #[.bool na, .string ca, .string da], .agg #[.bool nb, .string cb, .string db]] w fun e w' => e = .returned (.agg #[.bool p.neg, .string (encS p.num), .string (encS p.den)]) ∧ Below w.heap.size w w') := Lib.hid fun w => by
    have h := rRatMul_r ia ib (by decide) (by decide) w
    rw [h_p] at h
    exact h
  have C12 : Hid (∀ w, Calls Tryz.prog 38 #[.agg #[.bool na, .string ca, .string da], .agg #[.bool nb, .string cb, .string db]] w fun e w' => e = .returned (.int .i64 cm) ∧ Below w.heap.size w w') := Lib.hid fun w => by
    have h := rRatCmp_r ia ib (by decide) (by decide) w
    rw [h_cm] at h
    exact h
  have C13 : Hid (∀ w, Calls Tryz.prog 33 #[.agg #[.bool na, .string ca, .string da], .agg #[.bool nb, .string cb, .string db]] w fun e w' => e = .returned (.tuple #[.agg #[.bool qn, .string qs, .string qd], .bool qu]) ∧ Below w.heap.size w w') := Lib.hid fun w => by
    have h := rRatQuo_r ia ib (by decide) (by decide) w
    rw [h_q] at h
    exact h
  have C14 : Hid (∀ w, Calls Tryz.prog 41 #[.agg #[.bool na, .string ca, .string da]] w fun e w' => e = .returned (.agg #[.bool ng.neg, .string (encS ng.num), .string (encS ng.den)]) ∧ Below w.heap.size w w') := Lib.hid fun w => by
    have h := rRatNeg_r ia (by decide) w
    rw [h_ng] at h
    exact h
  have C15 : Hid (∀ w, Calls Tryz.prog 40 #[.agg #[.bool na, .string ca, .string da]] w fun e w' => e = .returned (.int .i64 sg) ∧ Below w.heap.size w w') := Lib.hid fun w => by
    have h := rRatSign_r ia (by decide) w
    rw [h_sg] at h
    exact h
  have C16 : Hid (∀ w, Calls Tryz.prog 42 #[.agg #[.bool na, .string ca, .string da]] w fun e w' => e = .returned (.bool rr) ∧ Below w.heap.size w w') := Lib.hid fun w => by
    have h := (fun w => rRatRight_any na ca da w (by omega) (by omega)) w
    rw [h_rr] at h
    exact h
  have C17 : Hid (∀ w, Lib.TabIs Tryz.prog w "internal/strconv.uint64pow10" .u64 Lib.pow10Tab → Calls Tryz.prog 19 #[.agg #[.bool na, .string ca, .string da]] w fun e w' => e = .returned (.string ts) ∧ Below w.heap.size w w') := Lib.hid fun w tb => by
    have h := RatText_r ia (by decide) (by decide) w tb
    rw [h_ts] at h
    exact h
  have C18 : Hid (∀ w, Calls Tryz.prog 20 #[.agg #[.bool na, .string ca, .string da]] w fun e w' => e = .returned (.string ts) ∧ Below w.heap.size w w') := Lib.hid fun w => by
    have h := rRatText_r ia (by decide) (by decide) w
    rw [h_ts] at h
    exact h
  have C19 : Hid (∀ w, Calls Tryz.prog 17 #[.agg #[.bool su.neg, .string (encS su.num), .string (encS su.den)]] w fun e w' => e = .returned (.bool true) ∧ Below w.heap.size w w') := Lib.hid fun w => by
    have h := (fun w => RatRight_any su.neg (encS su.num) (encS su.den) w (Nat.le_trans (encS_size_lt z_su.1) (by decide)) (Nat.le_trans (encS_size_lt z_su.2) (by decide))) w
    rw [rightR_of o_su] at h
    exact h
  have C20 : Hid (∀ w, Calls Tryz.prog 17 #[.agg #[.bool ng.neg, .string (encS ng.num), .string (encS ng.den)]] w fun e w' => e = .returned (.bool true) ∧ Below w.heap.size w w') := Lib.hid fun w => by
    have h := (fun w => RatRight_any ng.neg (encS ng.num) (encS ng.den) w (Nat.le_trans (encS_size_lt z_ng.1) (by decide)) (Nat.le_trans (encS_size_lt z_ng.2) (by decide))) w
    rw [rightR_of o_ng] at h
    exact h
  obtain ⟨sm, h_sm⟩ : ∃ t, sumL [⟨na, ca, da⟩, ⟨nb, cb, db⟩, ⟨na, ca, da⟩] zeroR = t := ⟨_, rfl⟩
  have HSUM : Hid (∀ w v, LstR w v [⟨na, ca, da⟩, ⟨nb, cb, db⟩, ⟨na, ca, da⟩] → Calls Tryz.prog 28 #[v] w fun e w' => e = .returned (.agg #[.bool sm.neg, .string (encS sm.num), .string (encS sm.den)]) ∧ Below w.heap.size w w') := Lib.hid fun w v hv => by
    have h := Sum_any _ v w hv (by simp) (by intro r hr; simp only [List.mem_cons, List.not_mem_nil, or_false] at hr; rcases hr with rfl | rfl | rfl <;> (constructor <;> simp only <;> omega))
    rw [h_sm] at h; exact h
  have HSUR : Hid (∀ w v, LstR w v [⟨na, ca, da⟩, ⟨nb, cb, db⟩, ⟨na, ca, da⟩] → Calls Tryz.prog 43 #[v] w fun e w' => e = .returned (.agg #[.bool sm.neg, .string (encS sm.num), .string (encS sm.den)]) ∧ Below w.heap.size w w') := Lib.hid fun w v hv => by
    have h := rSum_any _ v w hv (by simp) (by intro r hr; simp only [List.mem_cons, List.not_mem_nil, or_false] at hr; rcases hr with rfl | rfl | rfl <;> (constructor <;> simp only <;> omega))
    rw [h_sm] at h; exact h
  clear o_ra z_ra h_ra o_rb z_rb h_rb o_su z_su h_su o_d z_d h_d o_p z_p h_p o_ng z_ng h_ng htab hm hk0 hk1 hk2 hk3 hca hda hcb hdb lk0 lk1 lk2 lk3 zca zda zcb zdb h_cm h_sg h_ts h_rr h_q h_sm ia ib zsa zta zsb ztb
  obtain ⟨W0, hW0, h0, h1, hbb⟩ := boxes2 wq (.cells #[.bool na, .string sa, .string ta] 26) (.cells #[.bool nb, .string sb, .string tb] 26)
  have HI0 := Lib.hid h0; have HI1 := Lib.hid h1; have HB := Lib.hid hbb; clear h0 h1 hbb
  go_enter Tryz.func9, Tryz.ntmps9
  go_wp2_with fail
  clear hW0
  obtain ⟨bi1, hb1⟩ : ∃ b, wq.heap.size + 1 = b := ⟨_, rfl⟩
  obtain ⟨bi0, hb0⟩ : ∃ b, wq.heap.size = b := ⟨_, rfl⟩
  have HG0 : Hid (wq.heap.size ≤ bi0) := Lib.hid (by omega)
  have HG1 : Hid (wq.heap.size ≤ bi1) := Lib.hid (by omega)
  have HN01 : Hid (bi0 ≠ bi1) := Lib.hid (by omega)
  have HN10 : Hid (bi1 ≠ bi0) := Lib.hid (by omega)
  rw [hb1] at HI1 ⊢; rw [hb0] at HI0 ⊢; clear hb0 hb1
  refine (HSAN.out _ HB.out).mono ?_
  rintro e w1 ⟨rfl, hb⟩
  have HI0 := Lib.hid (heap_up hb HI0.out)
  have HI1 := Lib.hid (heap_up hb HI1.out)
  have HB := Lib.hid (HB.out.trans (hb.mono HB.out.size))
  clear hb
  obtain ⟨⟨rw0a, rw0b, rw0c⟩, fw0⟩ := row_cells HI0.out
  have fw01 := fw0 1; have fw02 := fw0 2; clear fw0
  obtain ⟨⟨rw1a, rw1b, rw1c⟩, fw1⟩ := row_cells HI1.out
  have fw11 := fw1 1; have fw12 := fw1 2; clear fw1
  obtain ⟨hk0, hc0, lk0⟩ := Pk0.out
  obtain ⟨hk1, hc1, lk1⟩ := Pk1.out
  obtain ⟨hk2, hc2, lk2⟩ := Pk2.out
  obtain ⟨hk3, hc3, lk3⟩ := Pk3.out
  have hN := row_set1 HI0.out (.string ca)
  have hO := row_other (b := bi0) (k := 1) HI1.out HN01.out (.string ca)
  have hD := HB.out.setCell (p := ⟨bi0, 1, none⟩) HG0.out (.string ca)
  obtain ⟨V0, hV0⟩ : ∃ V, w1.setCell ⟨bi0, 1, none⟩ (.string ca) = V := ⟨_, rfl⟩
  rw [hV0] at hN hO hD
  have HI0 := Lib.hid hN; have HI1 := Lib.hid hO; have HB := Lib.hid hD; clear hN hO hD
  obtain ⟨⟨rv00a, rv00b, rv00c⟩, fv00⟩ := row_cells HI0.out
  have fv001 := fv00 1; have fv002 := fv00 2; clear fv00
  obtain ⟨⟨rv01a, rv01b, rv01c⟩, fv01⟩ := row_cells HI1.out
  have fv011 := fv01 1; have fv012 := fv01 2; clear fv01
  have hN := row_set2 HI0.out (.string da)
  have hO := row_other (b := bi0) (k := 2) HI1.out HN01.out (.string da)
  have hD := HB.out.setCell (p := ⟨bi0, 2, none⟩) HG0.out (.string da)
  obtain ⟨V1, hV1⟩ : ∃ V, V0.setCell ⟨bi0, 2, none⟩ (.string da) = V := ⟨_, rfl⟩
  rw [hV1] at hN hO hD
  have HI0 := Lib.hid hN; have HI1 := Lib.hid hO; have HB := Lib.hid hD; clear hN hO hD
  obtain ⟨⟨rv10a, rv10b, rv10c⟩, fv10⟩ := row_cells HI0.out
  have fv101 := fv10 1; have fv102 := fv10 2; clear fv10
  obtain ⟨⟨rv11a, rv11b, rv11c⟩, fv11⟩ := row_cells HI1.out
  have fv111 := fv11 1; have fv112 := fv11 2; clear fv11
  have hN := row_set1 HI1.out (.string cb)
  have hO := row_other (b := bi1) (k := 1) HI0.out HN10.out (.string cb)
  have hD := HB.out.setCell (p := ⟨bi1, 1, none⟩) HG1.out (.string cb)
  obtain ⟨V2, hV2⟩ : ∃ V, V1.setCell ⟨bi1, 1, none⟩ (.string cb) = V := ⟨_, rfl⟩
  rw [hV2] at hN hO hD
  have HI1 := Lib.hid hN; have HI0 := Lib.hid hO; have HB := Lib.hid hD; clear hN hO hD
  obtain ⟨⟨rv20a, rv20b, rv20c⟩, fv20⟩ := row_cells HI0.out
  have fv201 := fv20 1; have fv202 := fv20 2; clear fv20
  obtain ⟨⟨rv21a, rv21b, rv21c⟩, fv21⟩ := row_cells HI1.out
  have fv211 := fv21 1; have fv212 := fv21 2; clear fv21
  have hN := row_set2 HI1.out (.string db)
  have hO := row_other (b := bi1) (k := 2) HI0.out HN10.out (.string db)
  have hD := HB.out.setCell (p := ⟨bi1, 2, none⟩) HG1.out (.string db)
  obtain ⟨V3, hV3⟩ : ∃ V, V2.setCell ⟨bi1, 2, none⟩ (.string db) = V := ⟨_, rfl⟩
  rw [hV3] at hN hO hD
  have HI1 := Lib.hid hN; have HI0 := Lib.hid hO; have HB := Lib.hid hD; clear hN hO hD
  obtain ⟨⟨rv30a, rv30b, rv30c⟩, fv30⟩ := row_cells HI0.out
  have fv301 := fv30 1; have fv302 := fv30 2; clear fv30
  obtain ⟨⟨rv31a, rv31b, rv31c⟩, fv31⟩ := row_cells HI1.out
  have fv311 := fv31 1; have fv312 := fv31 2; clear fv31
  go_wp2_with fail
  clear rw0a rw0b rw0c fw01 fw02 rw1a rw1b rw1c fw11 fw12 hk0 hc0 lk0 hk1 hc1 lk1 hk2 hc2 lk2 hk3 hc3 lk3 rv00a rv00b rv00c fv001 fv002 rv01a rv01b rv01c fv011 fv012 hV0 rv10a rv10b rv10c fv101 fv102 rv11a rv11b rv11c fv111 fv112 hV1 rv20a rv20b rv20c fv201 fv202 rv21a rv21b rv21c fv211 fv212 hV2 rv30a rv30b rv30c fv301 fv302 rv31a rv31b rv31c fv311 fv312 hV3
  refine (C5.out _).mono ?_
  rintro e w2 ⟨rfl, hb⟩
  have HI0 := Lib.hid (heap_up hb HI0.out)
  have HI1 := Lib.hid (heap_up hb HI1.out)
  have HB := Lib.hid (HB.out.trans (hb.mono HB.out.size))
  clear hb
  have HX6 := Lib.hid (heap_alloc_new w2 (.cells #[.bool qn, .string qs, .string qd] 26))
  have HB := Lib.hid (HB.out.alloc HB.out.size (.cells #[.bool qn, .string qs, .string qd] 26))
  have HI0 := Lib.hid (heap_up ((Below.refl _ w2).alloc (Nat.le_refl _) (.cells #[.bool qn, .string qs, .string qd] 26)) HI0.out)
  have HI1 := Lib.hid (heap_up ((Below.refl _ w2).alloc (Nat.le_refl _) (.cells #[.bool qn, .string qs, .string qd] 26)) HI1.out)
  obtain ⟨W3, hW3⟩ : ∃ W, w2.alloc (.cells #[.bool qn, .string qs, .string qd] 26) = W := ⟨_, rfl⟩
  rw [hW3] at HI0 HI1 HX6 HB
  obtain ⟨⟨k1a, k1b, k1c⟩, -⟩ := row_cells HI0.out
  obtain ⟨⟨k2a, k2b, k2c⟩, -⟩ := row_cells HI1.out
  go_wp2_with fail
  clear hW3
  obtain ⟨b6, hbb⟩ : ∃ b, w2.heap.size = b := ⟨_, rfl⟩
  rw [hbb] at HX6
  try rw [hbb]
  clear hbb
  clear k1a k1b k1c k2a k2b k2c
  refine (C13.out _).mono ?_
  rintro e w4 ⟨rfl, hb⟩
  have HI0 := Lib.hid (heap_up hb HI0.out)
  have HI1 := Lib.hid (heap_up hb HI1.out)
  have HX6 := Lib.hid (heap_up hb HX6.out)
  have HB := Lib.hid (HB.out.trans (hb.mono HB.out.size))
  clear hb
  have HX8 := Lib.hid (heap_alloc_new w4 (.cells #[.bool qn, .string qs, .string qd] 26))
  have HB := Lib.hid (HB.out.alloc HB.out.size (.cells #[.bool qn, .string qs, .string qd] 26))
  have HI0 := Lib.hid (heap_up ((Below.refl _ w4).alloc (Nat.le_refl _) (.cells #[.bool qn, .string qs, .string qd] 26)) HI0.out)
  have HI1 := Lib.hid (heap_up ((Below.refl _ w4).alloc (Nat.le_refl _) (.cells #[.bool qn, .string qs, .string qd] 26)) HI1.out)
  have HX6 := Lib.hid (heap_up ((Below.refl _ w4).alloc (Nat.le_refl _) (.cells #[.bool qn, .string qs, .string qd] 26)) HX6.out)
  obtain ⟨W5, hW5⟩ : ∃ W, w4.alloc (.cells #[.bool qn, .string qs, .string qd] 26) = W := ⟨_, rfl⟩
  rw [hW5] at HI0 HI1 HX6 HX8 HB
  go_wp2_with fail
  clear hW5
  obtain ⟨b8, hbb⟩ : ∃ b, w4.heap.size = b := ⟨_, rfl⟩
  rw [hbb] at HX8
  try rw [hbb]
  clear hbb
  refine wp_region_vals (w := W5) (by kernel_rfl) (SS8 bi0 bi1 b6 b8 na nb qn qu rr ca da cb db qs qd su d p) (fun t => (decide (10 ≤ t) && decide (t < 11)) || (decide (57 ≤ t) && decide (t < 99))) (by kernel_rfl) (by kernel_rfl) (by kernel_rfl) (SS8_up bi0 bi1 b6 b8 na nb qn qu rr ca da cb db qs qd su d p) ?_ ?_
  · intro i hi o listed a w hR K hK
    have ho := hR.at_
    have hi : i < 43 := hi
    have hii : i = 0 ∨ i = 1 ∨ i = 2 ∨ i = 3 ∨ i = 4 ∨ i = 5 ∨ i = 6 ∨ i = 7 ∨ i = 8 ∨ i = 9 ∨ i = 10 ∨ i = 11 ∨ i = 12 ∨ i = 13 ∨ i = 14 ∨ i = 15 ∨ i = 16 ∨ i = 17 ∨ i = 18 ∨ i = 19 ∨ i = 20 ∨ i = 21 ∨ i = 22 ∨ i = 23 ∨ i = 24 ∨ i = 25 ∨ i = 26 ∨ i = 27 ∨ i = 28 ∨ i = 29 ∨ i = 30 ∨ i = 31 ∨ i = 32 ∨ i = 33 ∨ i = 34 ∨ i = 35 ∨ i = 36 ∨ i = 37 ∨ i = 38 ∨ i = 39 ∨ i = 40 ∨ i = 41 ∨ i = 42 := by omega
    rcases hii with rfl | rfl | rfl | rfl | rfl | rfl | rfl | rfl | rfl | rfl | rfl | rfl | rfl | rfl | rfl | rfl | rfl | rfl | rfl | rfl | rfl | rfl | rfl | rfl | rfl | rfl | rfl | rfl | rfl | rfl | rfl | rfl | rfl | rfl | rfl | rfl | rfl | rfl | rfl | rfl | rfl | rfl | rfl
    · simp at ho
      subst ho
      have b2 : a.tmps.getD 2 undef = .pointer (some ⟨bi0, 0, none⟩) := hR.base 2 (by kernel_rfl)
      obtain ⟨⟨cx0, cx1, cx2⟩, -⟩ := row_cells (heap_up hR.below HI0.out)
      refine plain_step rfl rfl ?_
      go_simp
      exact hK _ _ (rfl) (Below.refl _ _)
    · simp at ho
      subst ho
      have e0 : a.tmps.getD 57 undef = .agg #[.bool na, .string ca, .string da] := hR.dep ⟨0, .data⟩ (by simp) rfl
      refine plain_step rfl rfl ?_
      go_simp
      refine (C8.out w).mono ?_
      rintro e w' ⟨rfl, hb⟩
      exact hK _ _ (rfl) hb
    · simp at ho
      subst ho
      have b2 : a.tmps.getD 2 undef = .pointer (some ⟨bi0, 0, none⟩) := hR.base 2 (by kernel_rfl)
      obtain ⟨⟨cx0, cx1, cx2⟩, -⟩ := row_cells (heap_up hR.below HI0.out)
      refine plain_step rfl rfl ?_
      go_simp
      exact hK _ _ (rfl) (Below.refl _ _)
    · simp at ho
      subst ho
      have e2 : a.tmps.getD 59 undef = .agg #[.bool na, .string ca, .string da] := hR.dep ⟨2, .data⟩ (by simp) rfl
      refine plain_step rfl rfl ?_
      go_simp
      refine (C16.out w).mono ?_
      rintro e w' ⟨rfl, hb⟩
      exact hK _ _ (rfl) hb
    · simp at ho
      subst ho
      have e1 : a.tmps.getD 58 undef = .bool rr := hR.dep ⟨1, .data⟩ (by simp) rfl
      have e3 : a.tmps.getD 60 undef = .bool rr := hR.dep ⟨3, .data⟩ (by simp) rfl
      refine plain_step rfl rfl ?_
      go_simp
      exact hK _ _ (rfl) (Below.refl _ _)
    · simp at ho
      subst ho
      have e4 : a.tmps.getD 61 undef = .bool true := hR.dep ⟨4, .data⟩ (by simp) rfl
      refine plain_step rfl rfl ?_
      go_simp
      exact hK _ _ (rfl) (Below.refl _ _)
    · simp at ho
      subst ho
      have e5 : a.tmps.getD 62 undef = .bool true := hR.dep ⟨5, .guard⟩ (by simp) rfl
      have b2 : a.tmps.getD 2 undef = .pointer (some ⟨bi0, 0, none⟩) := hR.base 2 (by kernel_rfl)
      obtain ⟨⟨cx0, cx1, cx2⟩, -⟩ := row_cells (heap_up hR.below HI0.out)
      refine guard_step rfl rfl rfl (b := true) e5 ?_
      go_simp
      exact hK _ _ (rfl) (Below.refl _ _)
    · simp at ho
      subst ho
      have e5 : a.tmps.getD 62 undef = .bool true := hR.dep ⟨5, .guard⟩ (by simp) rfl
      have b3 : a.tmps.getD 3 undef = .pointer (some ⟨bi1, 0, none⟩) := hR.base 3 (by kernel_rfl)
      obtain ⟨⟨cx0, cx1, cx2⟩, -⟩ := row_cells (heap_up hR.below HI1.out)
      refine guard_step rfl rfl rfl (b := true) e5 ?_
      go_simp
      exact hK _ _ (rfl) (Below.refl _ _)
    · simp at ho
      subst ho
      have e6 : a.tmps.getD 63 undef = .agg #[.bool na, .string ca, .string da] := hR.dep ⟨6, .data⟩ (by simp) rfl
      have e7 : a.tmps.getD 64 undef = .agg #[.bool nb, .string cb, .string db] := hR.dep ⟨7, .data⟩ (by simp) rfl
      have e5 : a.tmps.getD 62 undef = .bool true := hR.dep ⟨5, .guard⟩ (by simp) rfl
      refine guard_step rfl rfl rfl (b := true) e5 ?_
      go_simp
      refine (C1.out w).mono ?_
      rintro e w' ⟨rfl, hb⟩
      exact hK _ _ (rfl) hb
    · simp at ho
      subst ho
      have e5 : a.tmps.getD 62 undef = .bool true := hR.dep ⟨5, .guard⟩ (by simp) rfl
      have b2 : a.tmps.getD 2 undef = .pointer (some ⟨bi0, 0, none⟩) := hR.base 2 (by kernel_rfl)
      obtain ⟨⟨cx0, cx1, cx2⟩, -⟩ := row_cells (heap_up hR.below HI0.out)
      refine guard_step rfl rfl rfl (b := true) e5 ?_
      go_simp
      exact hK _ _ (rfl) (Below.refl _ _)
    · simp at ho
      subst ho
      have e5 : a.tmps.getD 62 undef = .bool true := hR.dep ⟨5, .guard⟩ (by simp) rfl
      have b3 : a.tmps.getD 3 undef = .pointer (some ⟨bi1, 0, none⟩) := hR.base 3 (by kernel_rfl)
      obtain ⟨⟨cx0, cx1, cx2⟩, -⟩ := row_cells (heap_up hR.below HI1.out)
      refine guard_step rfl rfl rfl (b := true) e5 ?_
      go_simp
      exact hK _ _ (rfl) (Below.refl _ _)
    · simp at ho
      subst ho
      have e9 : a.tmps.getD 66 undef = .agg #[.bool na, .string ca, .string da] := hR.dep ⟨9, .data⟩ (by simp) rfl
      have e10 : a.tmps.getD 67 undef = .agg #[.bool nb, .string cb, .string db] := hR.dep ⟨10, .data⟩ (by simp) rfl
      have e5 : a.tmps.getD 62 undef = .bool true := hR.dep ⟨5, .guard⟩ (by simp) rfl
      refine guard_step rfl rfl rfl (b := true) e5 ?_
      go_simp
      refine (C9.out w).mono ?_
      rintro e w' ⟨rfl, hb⟩
      exact hK _ _ (rfl) hb
    · simp at ho
      subst ho
      have e8 : a.tmps.getD 65 undef = .agg #[.bool su.neg, .string (encS su.num), .string (encS su.den)] := hR.dep ⟨8, .data⟩ (by simp) rfl
      have e11 : a.tmps.getD 68 undef = .agg #[.bool su.neg, .string (encS su.num), .string (encS su.den)] := hR.dep ⟨11, .data⟩ (by simp) rfl
      have e5 : a.tmps.getD 62 undef = .bool true := hR.dep ⟨5, .guard⟩ (by simp) rfl
      refine guard_step rfl rfl rfl (b := true) e5 ?_
      go_simp
      exact hK _ _ (rfl) (Below.refl _ _)
    · simp at ho
      subst ho
      have e5 : a.tmps.getD 62 undef = .bool true := hR.dep ⟨5, .data⟩ (by simp) rfl
      have e12 : a.tmps.getD 69 undef = .bool true := hR.dep ⟨12, .data⟩ (by simp) rfl
      refine plain_step rfl rfl ?_
      go_simp
      exact hK _ _ (rfl) (Below.refl _ _)
    · simp at ho
      subst ho
      have e13 : a.tmps.getD 70 undef = .bool true := hR.dep ⟨13, .data⟩ (by simp) rfl
      refine plain_step rfl rfl ?_
      go_simp
      exact hK _ _ (rfl) (Below.refl _ _)
    · simp at ho
      subst ho
      have e14 : a.tmps.getD 71 undef = .bool true := hR.dep ⟨14, .guard⟩ (by simp) rfl
      have b2 : a.tmps.getD 2 undef = .pointer (some ⟨bi0, 0, none⟩) := hR.base 2 (by kernel_rfl)
      obtain ⟨⟨cx0, cx1, cx2⟩, -⟩ := row_cells (heap_up hR.below HI0.out)
      refine guard_step rfl rfl rfl (b := true) e14 ?_
      go_simp
      exact hK _ _ (rfl) (Below.refl _ _)
    · simp at ho
      subst ho
      have e14 : a.tmps.getD 71 undef = .bool true := hR.dep ⟨14, .guard⟩ (by simp) rfl
      have b3 : a.tmps.getD 3 undef = .pointer (some ⟨bi1, 0, none⟩) := hR.base 3 (by kernel_rfl)
      obtain ⟨⟨cx0, cx1, cx2⟩, -⟩ := row_cells (heap_up hR.below HI1.out)
      refine guard_step rfl rfl rfl (b := true) e14 ?_
      go_simp
      exact hK _ _ (rfl) (Below.refl _ _)
    · simp at ho
      subst ho
      have e15 : a.tmps.getD 72 undef = .agg #[.bool na, .string ca, .string da] := hR.dep ⟨15, .data⟩ (by simp) rfl
      have e16 : a.tmps.getD 73 undef = .agg #[.bool nb, .string cb, .string db] := hR.dep ⟨16, .data⟩ (by simp) rfl
      have e14 : a.tmps.getD 71 undef = .bool true := hR.dep ⟨14, .guard⟩ (by simp) rfl
      refine guard_step rfl rfl rfl (b := true) e14 ?_
      go_simp
      refine (C2.out w).mono ?_
      rintro e w' ⟨rfl, hb⟩
      exact hK _ _ (rfl) hb
    · simp at ho
      subst ho
      have e14 : a.tmps.getD 71 undef = .bool true := hR.dep ⟨14, .guard⟩ (by simp) rfl
      have b2 : a.tmps.getD 2 undef = .pointer (some ⟨bi0, 0, none⟩) := hR.base 2 (by kernel_rfl)
      obtain ⟨⟨cx0, cx1, cx2⟩, -⟩ := row_cells (heap_up hR.below HI0.out)
      refine guard_step rfl rfl rfl (b := true) e14 ?_
      go_simp
      exact hK _ _ (rfl) (Below.refl _ _)
    · simp at ho
      subst ho
      have e14 : a.tmps.getD 71 undef = .bool true := hR.dep ⟨14, .guard⟩ (by simp) rfl
      have b3 : a.tmps.getD 3 undef = .pointer (some ⟨bi1, 0, none⟩) := hR.base 3 (by kernel_rfl)
      obtain ⟨⟨cx0, cx1, cx2⟩, -⟩ := row_cells (heap_up hR.below HI1.out)
      refine guard_step rfl rfl rfl (b := true) e14 ?_
      go_simp
      exact hK _ _ (rfl) (Below.refl _ _)
    · simp at ho
      subst ho
      have e18 : a.tmps.getD 75 undef = .agg #[.bool na, .string ca, .string da] := hR.dep ⟨18, .data⟩ (by simp) rfl
      have e19 : a.tmps.getD 76 undef = .agg #[.bool nb, .string cb, .string db] := hR.dep ⟨19, .data⟩ (by simp) rfl
      have e14 : a.tmps.getD 71 undef = .bool true := hR.dep ⟨14, .guard⟩ (by simp) rfl
      refine guard_step rfl rfl rfl (b := true) e14 ?_
      go_simp
      refine (C10.out w).mono ?_
      rintro e w' ⟨rfl, hb⟩
      exact hK _ _ (rfl) hb
    · simp at ho
      subst ho
      have e17 : a.tmps.getD 74 undef = .agg #[.bool d.neg, .string (encS d.num), .string (encS d.den)] := hR.dep ⟨17, .data⟩ (by simp) rfl
      have e20 : a.tmps.getD 77 undef = .agg #[.bool d.neg, .string (encS d.num), .string (encS d.den)] := hR.dep ⟨20, .data⟩ (by simp) rfl
      have e14 : a.tmps.getD 71 undef = .bool true := hR.dep ⟨14, .guard⟩ (by simp) rfl
      refine guard_step rfl rfl rfl (b := true) e14 ?_
      go_simp
      exact hK _ _ (rfl) (Below.refl _ _)
    · simp at ho
      subst ho
      have e14 : a.tmps.getD 71 undef = .bool true := hR.dep ⟨14, .data⟩ (by simp) rfl
      have e21 : a.tmps.getD 78 undef = .bool true := hR.dep ⟨21, .data⟩ (by simp) rfl
      refine plain_step rfl rfl ?_
      go_simp
      exact hK _ _ (rfl) (Below.refl _ _)
    · simp at ho
      subst ho
      have e22 : a.tmps.getD 79 undef = .bool true := hR.dep ⟨22, .data⟩ (by simp) rfl
      refine plain_step rfl rfl ?_
      go_simp
      exact hK _ _ (rfl) (Below.refl _ _)
    · simp at ho
      subst ho
      have e23 : a.tmps.getD 80 undef = .bool true := hR.dep ⟨23, .guard⟩ (by simp) rfl
      have b2 : a.tmps.getD 2 undef = .pointer (some ⟨bi0, 0, none⟩) := hR.base 2 (by kernel_rfl)
      obtain ⟨⟨cx0, cx1, cx2⟩, -⟩ := row_cells (heap_up hR.below HI0.out)
      refine guard_step rfl rfl rfl (b := true) e23 ?_
      go_simp
      exact hK _ _ (rfl) (Below.refl _ _)
    · simp at ho
      subst ho
      have e23 : a.tmps.getD 80 undef = .bool true := hR.dep ⟨23, .guard⟩ (by simp) rfl
      have b3 : a.tmps.getD 3 undef = .pointer (some ⟨bi1, 0, none⟩) := hR.base 3 (by kernel_rfl)
      obtain ⟨⟨cx0, cx1, cx2⟩, -⟩ := row_cells (heap_up hR.below HI1.out)
      refine guard_step rfl rfl rfl (b := true) e23 ?_
      go_simp
      exact hK _ _ (rfl) (Below.refl _ _)
    · simp at ho
      subst ho
      have e24 : a.tmps.getD 81 undef = .agg #[.bool na, .string ca, .string da] := hR.dep ⟨24, .data⟩ (by simp) rfl
      have e25 : a.tmps.getD 82 undef = .agg #[.bool nb, .string cb, .string db] := hR.dep ⟨25, .data⟩ (by simp) rfl
      have e23 : a.tmps.getD 80 undef = .bool true := hR.dep ⟨23, .guard⟩ (by simp) rfl
      refine guard_step rfl rfl rfl (b := true) e23 ?_
      go_simp
      refine (C3.out w).mono ?_
      rintro e w' ⟨rfl, hb⟩
      exact hK _ _ (rfl) hb
    · simp at ho
      subst ho
      have e23 : a.tmps.getD 80 undef = .bool true := hR.dep ⟨23, .guard⟩ (by simp) rfl
      have b2 : a.tmps.getD 2 undef = .pointer (some ⟨bi0, 0, none⟩) := hR.base 2 (by kernel_rfl)
      obtain ⟨⟨cx0, cx1, cx2⟩, -⟩ := row_cells (heap_up hR.below HI0.out)
      refine guard_step rfl rfl rfl (b := true) e23 ?_
      go_simp
      exact hK _ _ (rfl) (Below.refl _ _)
    · simp at ho
      subst ho
      have e23 : a.tmps.getD 80 undef = .bool true := hR.dep ⟨23, .guard⟩ (by simp) rfl
      have b3 : a.tmps.getD 3 undef = .pointer (some ⟨bi1, 0, none⟩) := hR.base 3 (by kernel_rfl)
      obtain ⟨⟨cx0, cx1, cx2⟩, -⟩ := row_cells (heap_up hR.below HI1.out)
      refine guard_step rfl rfl rfl (b := true) e23 ?_
      go_simp
      exact hK _ _ (rfl) (Below.refl _ _)
    · simp at ho
      subst ho
      have e27 : a.tmps.getD 84 undef = .agg #[.bool na, .string ca, .string da] := hR.dep ⟨27, .data⟩ (by simp) rfl
      have e28 : a.tmps.getD 85 undef = .agg #[.bool nb, .string cb, .string db] := hR.dep ⟨28, .data⟩ (by simp) rfl
      have e23 : a.tmps.getD 80 undef = .bool true := hR.dep ⟨23, .guard⟩ (by simp) rfl
      refine guard_step rfl rfl rfl (b := true) e23 ?_
      go_simp
      refine (C11.out w).mono ?_
      rintro e w' ⟨rfl, hb⟩
      exact hK _ _ (rfl) hb
    · simp at ho
      subst ho
      have e26 : a.tmps.getD 83 undef = .agg #[.bool p.neg, .string (encS p.num), .string (encS p.den)] := hR.dep ⟨26, .data⟩ (by simp) rfl
      have e29 : a.tmps.getD 86 undef = .agg #[.bool p.neg, .string (encS p.num), .string (encS p.den)] := hR.dep ⟨29, .data⟩ (by simp) rfl
      have e23 : a.tmps.getD 80 undef = .bool true := hR.dep ⟨23, .guard⟩ (by simp) rfl
      refine guard_step rfl rfl rfl (b := true) e23 ?_
      go_simp
      exact hK _ _ (rfl) (Below.refl _ _)
    · simp at ho
      subst ho
      have e23 : a.tmps.getD 80 undef = .bool true := hR.dep ⟨23, .data⟩ (by simp) rfl
      have e30 : a.tmps.getD 87 undef = .bool true := hR.dep ⟨30, .data⟩ (by simp) rfl
      refine plain_step rfl rfl ?_
      go_simp
      exact hK _ _ (rfl) (Below.refl _ _)
    · simp at ho
      subst ho
      have e31 : a.tmps.getD 88 undef = .bool true := hR.dep ⟨31, .data⟩ (by simp) rfl
      refine plain_step rfl rfl ?_
      go_simp
      exact hK _ _ (rfl) (Below.refl _ _)
    · simp at ho
      subst ho
      have e32 : a.tmps.getD 89 undef = .bool true := hR.dep ⟨32, .guard⟩ (by simp) rfl
      have b6 : a.tmps.getD 6 undef = .pointer (some ⟨b6, 0, none⟩) := hR.base 6 (by kernel_rfl)
      obtain ⟨⟨cx0, cx1, cx2⟩, -⟩ := row_cells (heap_up hR.below HX6.out)
      refine guard_step rfl rfl rfl (b := true) e32 ?_
      go_simp
      exact hK _ _ (rfl) (Below.refl _ _)
    · simp at ho
      subst ho
      have e32 : a.tmps.getD 89 undef = .bool true := hR.dep ⟨32, .guard⟩ (by simp) rfl
      have b8 : a.tmps.getD 8 undef = .pointer (some ⟨b8, 0, none⟩) := hR.base 8 (by kernel_rfl)
      obtain ⟨⟨cx0, cx1, cx2⟩, -⟩ := row_cells (heap_up hR.below HX8.out)
      refine guard_step rfl rfl rfl (b := true) e32 ?_
      go_simp
      exact hK _ _ (rfl) (Below.refl _ _)
    · simp at ho
      subst ho
      have e33 : a.tmps.getD 90 undef = .agg #[.bool qn, .string qs, .string qd] := hR.dep ⟨33, .data⟩ (by simp) rfl
      have e34 : a.tmps.getD 91 undef = .agg #[.bool qn, .string qs, .string qd] := hR.dep ⟨34, .data⟩ (by simp) rfl
      have e32 : a.tmps.getD 89 undef = .bool true := hR.dep ⟨32, .guard⟩ (by simp) rfl
      refine guard_step rfl rfl rfl (b := true) e32 ?_
      go_simp
      exact hK _ _ (rfl) (Below.refl _ _)
    · simp at ho
      subst ho
      have e32 : a.tmps.getD 89 undef = .bool true := hR.dep ⟨32, .data⟩ (by simp) rfl
      have e35 : a.tmps.getD 92 undef = .bool true := hR.dep ⟨35, .data⟩ (by simp) rfl
      refine plain_step rfl rfl ?_
      go_simp
      exact hK _ _ (rfl) (Below.refl _ _)
    · simp at ho
      subst ho
      have e36 : a.tmps.getD 93 undef = .bool true := hR.dep ⟨36, .data⟩ (by simp) rfl
      refine plain_step rfl rfl ?_
      go_simp
      exact hK _ _ (rfl) (Below.refl _ _)
    · simp at ho
      subst ho
      have e37 : a.tmps.getD 94 undef = .bool true := hR.dep ⟨37, .guard⟩ (by simp) rfl
      have b7 : a.tmps.getD 7 undef = .bool qu := hR.base 7 (by kernel_rfl)
      refine guard_step rfl rfl rfl (b := true) e37 ?_
      go_simp
      exact hK _ _ (rfl) (Below.refl _ _)
    · simp at ho
      subst ho
      have e37 : a.tmps.getD 94 undef = .bool true := hR.dep ⟨37, .guard⟩ (by simp) rfl
      have b9 : a.tmps.getD 9 undef = .bool qu := hR.base 9 (by kernel_rfl)
      refine guard_step rfl rfl rfl (b := true) e37 ?_
      go_simp
      exact hK _ _ (rfl) (Below.refl _ _)
    · simp at ho
      subst ho
      have e38 : a.tmps.getD 95 undef = .bool qu := hR.dep ⟨38, .data⟩ (by simp) rfl
      have e39 : a.tmps.getD 96 undef = .bool qu := hR.dep ⟨39, .data⟩ (by simp) rfl
      have e37 : a.tmps.getD 94 undef = .bool true := hR.dep ⟨37, .guard⟩ (by simp) rfl
      refine guard_step rfl rfl rfl (b := true) e37 ?_
      go_simp
      exact hK _ _ (rfl) (Below.refl _ _)
    · simp at ho
      subst ho
      have e37 : a.tmps.getD 94 undef = .bool true := hR.dep ⟨37, .data⟩ (by simp) rfl
      have e40 : a.tmps.getD 97 undef = .bool true := hR.dep ⟨40, .data⟩ (by simp) rfl
      refine plain_step rfl rfl ?_
      go_simp
      exact hK _ _ (rfl) (Below.refl _ _)
    · simp at ho
      subst ho
      have e41 : a.tmps.getD 98 undef = .bool true := hR.dep ⟨41, .data⟩ (by simp) rfl
      refine plain_step rfl rfl ?_
      go_simp
      exact hK _ _ (rfl) (Below.refl _ _)
  · intro s w hS hb
    have e42 : s 10 = .bool true := hS 42 (by decide)
    simp only [over, Nat.zero_add, Nat.reduceAdd, Nat.reduceLeDiff, Nat.reduceLT, decide_true, decide_false, Bool.and_true, Bool.and_false, Bool.or_false, Bool.or_true, cond_true, cond_false]
    have HB := Lib.hid (HB.out.trans (hb.mono HB.out.size))
    have HI0 := Lib.hid (heap_up hb HI0.out)
    have HI1 := Lib.hid (heap_up hb HI1.out)
    have HX6 := Lib.hid (heap_up hb HX6.out)
    have HX8 := Lib.hid (heap_up hb HX8.out)
    obtain ⟨wr8, hw8⟩ : ∃ w8, w8 = w := ⟨_, rfl⟩
    subst hw8
    rw [e42]
    clear hS hb e42
    go_wp2_with fail
    refine wp_region_vals (w := wr8) (by kernel_rfl) (SS9 bi0 bi1 na nb ca da cb db ts ng cm sg) (fun t => (decide (11 ≤ t) && decide (t < 12)) || (decide (99 ≤ t) && decide (t < 127))) (by kernel_rfl) (by kernel_rfl) (by kernel_rfl) (SS9_up bi0 bi1 na nb ca da cb db ts ng cm sg) ?_ ?_
    · intro i hi o listed a w hR K hK
      have ho := hR.at_
      have hi : i < 29 := hi
      have hii : i = 0 ∨ i = 1 ∨ i = 2 ∨ i = 3 ∨ i = 4 ∨ i = 5 ∨ i = 6 ∨ i = 7 ∨ i = 8 ∨ i = 9 ∨ i = 10 ∨ i = 11 ∨ i = 12 ∨ i = 13 ∨ i = 14 ∨ i = 15 ∨ i = 16 ∨ i = 17 ∨ i = 18 ∨ i = 19 ∨ i = 20 ∨ i = 21 ∨ i = 22 ∨ i = 23 ∨ i = 24 ∨ i = 25 ∨ i = 26 ∨ i = 27 ∨ i = 28 := by omega
      rcases hii with rfl | rfl | rfl | rfl | rfl | rfl | rfl | rfl | rfl | rfl | rfl | rfl | rfl | rfl | rfl | rfl | rfl | rfl | rfl | rfl | rfl | rfl | rfl | rfl | rfl | rfl | rfl | rfl | rfl
      · simp at ho
        subst ho
        have b2 : a.tmps.getD 2 undef = .pointer (some ⟨bi0, 0, none⟩) := hR.base 2 (by kernel_rfl)
        obtain ⟨⟨cx0, cx1, cx2⟩, -⟩ := row_cells (heap_up hR.below HI0.out)
        refine plain_step rfl rfl ?_
        go_simp
        exact hK _ _ (rfl) (Below.refl _ _)
      · simp at ho
        subst ho
        have b3 : a.tmps.getD 3 undef = .pointer (some ⟨bi1, 0, none⟩) := hR.base 3 (by kernel_rfl)
        obtain ⟨⟨cx0, cx1, cx2⟩, -⟩ := row_cells (heap_up hR.below HI1.out)
        refine plain_step rfl rfl ?_
        go_simp
        exact hK _ _ (rfl) (Below.refl _ _)
      · simp at ho
        subst ho
        have e0 : a.tmps.getD 99 undef = .agg #[.bool na, .string ca, .string da] := hR.dep ⟨0, .data⟩ (by simp) rfl
        have e1 : a.tmps.getD 100 undef = .agg #[.bool nb, .string cb, .string db] := hR.dep ⟨1, .data⟩ (by simp) rfl
        refine plain_step rfl rfl ?_
        go_simp
        refine (C4.out w).mono ?_
        rintro e w' ⟨rfl, hb⟩
        exact hK _ _ (rfl) hb
      · simp at ho
        subst ho
        have b2 : a.tmps.getD 2 undef = .pointer (some ⟨bi0, 0, none⟩) := hR.base 2 (by kernel_rfl)
        obtain ⟨⟨cx0, cx1, cx2⟩, -⟩ := row_cells (heap_up hR.below HI0.out)
        refine plain_step rfl rfl ?_
        go_simp
        exact hK _ _ (rfl) (Below.refl _ _)
      · simp at ho
        subst ho
        have b3 : a.tmps.getD 3 undef = .pointer (some ⟨bi1, 0, none⟩) := hR.base 3 (by kernel_rfl)
        obtain ⟨⟨cx0, cx1, cx2⟩, -⟩ := row_cells (heap_up hR.below HI1.out)
        refine plain_step rfl rfl ?_
        go_simp
        exact hK _ _ (rfl) (Below.refl _ _)
      · simp at ho
        subst ho
        have e3 : a.tmps.getD 102 undef = .agg #[.bool na, .string ca, .string da] := hR.dep ⟨3, .data⟩ (by simp) rfl
        have e4 : a.tmps.getD 103 undef = .agg #[.bool nb, .string cb, .string db] := hR.dep ⟨4, .data⟩ (by simp) rfl
        refine plain_step rfl rfl ?_
        go_simp
        refine (C12.out w).mono ?_
        rintro e w' ⟨rfl, hb⟩
        exact hK _ _ (rfl) hb
      · simp at ho
        subst ho
        have e2 : a.tmps.getD 101 undef = .int .i64 cm := hR.dep ⟨2, .data⟩ (by simp) rfl
        have e5 : a.tmps.getD 104 undef = .int .i64 cm := hR.dep ⟨5, .data⟩ (by simp) rfl
        refine plain_step rfl rfl ?_
        go_simp
        exact hK _ _ (rfl) (Below.refl _ _)
      · simp at ho
        subst ho
        have e6 : a.tmps.getD 105 undef = .bool true := hR.dep ⟨6, .data⟩ (by simp) rfl
        refine plain_step rfl rfl ?_
        go_simp
        exact hK _ _ (rfl) (Below.refl _ _)
      · simp at ho
        subst ho
        have e7 : a.tmps.getD 106 undef = .bool true := hR.dep ⟨7, .guard⟩ (by simp) rfl
        have b2 : a.tmps.getD 2 undef = .pointer (some ⟨bi0, 0, none⟩) := hR.base 2 (by kernel_rfl)
        obtain ⟨⟨cx0, cx1, cx2⟩, -⟩ := row_cells (heap_up hR.below HI0.out)
        refine guard_step rfl rfl rfl (b := true) e7 ?_
        go_simp
        exact hK _ _ (rfl) (Below.refl _ _)
      · simp at ho
        subst ho
        have e8 : a.tmps.getD 107 undef = .agg #[.bool na, .string ca, .string da] := hR.dep ⟨8, .data⟩ (by simp) rfl
        have e7 : a.tmps.getD 106 undef = .bool true := hR.dep ⟨7, .guard⟩ (by simp) rfl
        refine guard_step rfl rfl rfl (b := true) e7 ?_
        go_simp
        refine (C7.out w).mono ?_
        rintro e w' ⟨rfl, hb⟩
        exact hK _ _ (rfl) hb
      · simp at ho
        subst ho
        have e7 : a.tmps.getD 106 undef = .bool true := hR.dep ⟨7, .guard⟩ (by simp) rfl
        have b2 : a.tmps.getD 2 undef = .pointer (some ⟨bi0, 0, none⟩) := hR.base 2 (by kernel_rfl)
        obtain ⟨⟨cx0, cx1, cx2⟩, -⟩ := row_cells (heap_up hR.below HI0.out)
        refine guard_step rfl rfl rfl (b := true) e7 ?_
        go_simp
        exact hK _ _ (rfl) (Below.refl _ _)
      · simp at ho
        subst ho
        have e10 : a.tmps.getD 109 undef = .agg #[.bool na, .string ca, .string da] := hR.dep ⟨10, .data⟩ (by simp) rfl
        have e7 : a.tmps.getD 106 undef = .bool true := hR.dep ⟨7, .guard⟩ (by simp) rfl
        refine guard_step rfl rfl rfl (b := true) e7 ?_
        go_simp
        refine (C15.out w).mono ?_
        rintro e w' ⟨rfl, hb⟩
        exact hK _ _ (rfl) hb
      · simp at ho
        subst ho
        have e9 : a.tmps.getD 108 undef = .int .i64 sg := hR.dep ⟨9, .data⟩ (by simp) rfl
        have e11 : a.tmps.getD 110 undef = .int .i64 sg := hR.dep ⟨11, .data⟩ (by simp) rfl
        have e7 : a.tmps.getD 106 undef = .bool true := hR.dep ⟨7, .guard⟩ (by simp) rfl
        refine guard_step rfl rfl rfl (b := true) e7 ?_
        go_simp
        exact hK _ _ (rfl) (Below.refl _ _)
      · simp at ho
        subst ho
        have e7 : a.tmps.getD 106 undef = .bool true := hR.dep ⟨7, .data⟩ (by simp) rfl
        have e12 : a.tmps.getD 111 undef = .bool true := hR.dep ⟨12, .data⟩ (by simp) rfl
        refine plain_step rfl rfl ?_
        go_simp
        exact hK _ _ (rfl) (Below.refl _ _)
      · simp at ho
        subst ho
        have e13 : a.tmps.getD 112 undef = .bool true := hR.dep ⟨13, .data⟩ (by simp) rfl
        refine plain_step rfl rfl ?_
        go_simp
        exact hK _ _ (rfl) (Below.refl _ _)
      · simp at ho
        subst ho
        have e14 : a.tmps.getD 113 undef = .bool true := hR.dep ⟨14, .guard⟩ (by simp) rfl
        have b2 : a.tmps.getD 2 undef = .pointer (some ⟨bi0, 0, none⟩) := hR.base 2 (by kernel_rfl)
        obtain ⟨⟨cx0, cx1, cx2⟩, -⟩ := row_cells (heap_up hR.below HI0.out)
        refine guard_step rfl rfl rfl (b := true) e14 ?_
        go_simp
        exact hK _ _ (rfl) (Below.refl _ _)
      · simp at ho
        subst ho
        have e15 : a.tmps.getD 114 undef = .agg #[.bool na, .string ca, .string da] := hR.dep ⟨15, .data⟩ (by simp) rfl
        have e14 : a.tmps.getD 113 undef = .bool true := hR.dep ⟨14, .guard⟩ (by simp) rfl
        refine guard_step rfl rfl rfl (b := true) e14 ?_
        go_simp
        refine (C6.out w).mono ?_
        rintro e w' ⟨rfl, hb⟩
        exact hK _ _ (rfl) hb
      · simp at ho
        subst ho
        have e14 : a.tmps.getD 113 undef = .bool true := hR.dep ⟨14, .guard⟩ (by simp) rfl
        have b2 : a.tmps.getD 2 undef = .pointer (some ⟨bi0, 0, none⟩) := hR.base 2 (by kernel_rfl)
        obtain ⟨⟨cx0, cx1, cx2⟩, -⟩ := row_cells (heap_up hR.below HI0.out)
        refine guard_step rfl rfl rfl (b := true) e14 ?_
        go_simp
        exact hK _ _ (rfl) (Below.refl _ _)
      · simp at ho
        subst ho
        have e17 : a.tmps.getD 116 undef = .agg #[.bool na, .string ca, .string da] := hR.dep ⟨17, .data⟩ (by simp) rfl
        have e14 : a.tmps.getD 113 undef = .bool true := hR.dep ⟨14, .guard⟩ (by simp) rfl
        refine guard_step rfl rfl rfl (b := true) e14 ?_
        go_simp
        refine (C14.out w).mono ?_
        rintro e w' ⟨rfl, hb⟩
        exact hK _ _ (rfl) hb
      · simp at ho
        subst ho
        have e16 : a.tmps.getD 115 undef = .agg #[.bool ng.neg, .string (encS ng.num), .string (encS ng.den)] := hR.dep ⟨16, .data⟩ (by simp) rfl
        have e18 : a.tmps.getD 117 undef = .agg #[.bool ng.neg, .string (encS ng.num), .string (encS ng.den)] := hR.dep ⟨18, .data⟩ (by simp) rfl
        have e14 : a.tmps.getD 113 undef = .bool true := hR.dep ⟨14, .guard⟩ (by simp) rfl
        refine guard_step rfl rfl rfl (b := true) e14 ?_
        go_simp
        exact hK _ _ (rfl) (Below.refl _ _)
      · simp at ho
        subst ho
        have e14 : a.tmps.getD 113 undef = .bool true := hR.dep ⟨14, .data⟩ (by simp) rfl
        have e19 : a.tmps.getD 118 undef = .bool true := hR.dep ⟨19, .data⟩ (by simp) rfl
        refine plain_step rfl rfl ?_
        go_simp
        exact hK _ _ (rfl) (Below.refl _ _)
      · simp at ho
        subst ho
        have e20 : a.tmps.getD 119 undef = .bool true := hR.dep ⟨20, .data⟩ (by simp) rfl
        refine plain_step rfl rfl ?_
        go_simp
        exact hK _ _ (rfl) (Below.refl _ _)
      · simp at ho
        subst ho
        have e21 : a.tmps.getD 120 undef = .bool true := hR.dep ⟨21, .guard⟩ (by simp) rfl
        have b2 : a.tmps.getD 2 undef = .pointer (some ⟨bi0, 0, none⟩) := hR.base 2 (by kernel_rfl)
        obtain ⟨⟨cx0, cx1, cx2⟩, -⟩ := row_cells (heap_up hR.below HI0.out)
        refine guard_step rfl rfl rfl (b := true) e21 ?_
        go_simp
        exact hK _ _ (rfl) (Below.refl _ _)
      · simp at ho
        subst ho
        have e22 : a.tmps.getD 121 undef = .agg #[.bool na, .string ca, .string da] := hR.dep ⟨22, .data⟩ (by simp) rfl
        have e21 : a.tmps.getD 120 undef = .bool true := hR.dep ⟨21, .guard⟩ (by simp) rfl
        refine guard_step rfl rfl rfl (b := true) e21 ?_
        go_simp
        refine (C17.out w ((HT.out.on (HB.out.trans (hR.below.mono HB.out.size))).here)).mono ?_
        rintro e w' ⟨rfl, hb⟩
        exact hK _ _ (rfl) hb
      · simp at ho
        subst ho
        have e21 : a.tmps.getD 120 undef = .bool true := hR.dep ⟨21, .guard⟩ (by simp) rfl
        have b2 : a.tmps.getD 2 undef = .pointer (some ⟨bi0, 0, none⟩) := hR.base 2 (by kernel_rfl)
        obtain ⟨⟨cx0, cx1, cx2⟩, -⟩ := row_cells (heap_up hR.below HI0.out)
        refine guard_step rfl rfl rfl (b := true) e21 ?_
        go_simp
        exact hK _ _ (rfl) (Below.refl _ _)
      · simp at ho
        subst ho
        have e24 : a.tmps.getD 123 undef = .agg #[.bool na, .string ca, .string da] := hR.dep ⟨24, .data⟩ (by simp) rfl
        have e21 : a.tmps.getD 120 undef = .bool true := hR.dep ⟨21, .guard⟩ (by simp) rfl
        refine guard_step rfl rfl rfl (b := true) e21 ?_
        go_simp
        refine (C18.out w).mono ?_
        rintro e w' ⟨rfl, hb⟩
        exact hK _ _ (rfl) hb
      · simp at ho
        subst ho
        have e23 : a.tmps.getD 122 undef = .string ts := hR.dep ⟨23, .data⟩ (by simp) rfl
        have e25 : a.tmps.getD 124 undef = .string ts := hR.dep ⟨25, .data⟩ (by simp) rfl
        have e21 : a.tmps.getD 120 undef = .bool true := hR.dep ⟨21, .guard⟩ (by simp) rfl
        refine guard_step rfl rfl rfl (b := true) e21 ?_
        go_simp
        exact hK _ _ (rfl) (Below.refl _ _)
      · simp at ho
        subst ho
        have e21 : a.tmps.getD 120 undef = .bool true := hR.dep ⟨21, .data⟩ (by simp) rfl
        have e26 : a.tmps.getD 125 undef = .bool true := hR.dep ⟨26, .data⟩ (by simp) rfl
        refine plain_step rfl rfl ?_
        go_simp
        exact hK _ _ (rfl) (Below.refl _ _)
      · simp at ho
        subst ho
        have e27 : a.tmps.getD 126 undef = .bool true := hR.dep ⟨27, .data⟩ (by simp) rfl
        refine plain_step rfl rfl ?_
        go_simp
        exact hK _ _ (rfl) (Below.refl _ _)
    · intro s w hS hb
      have e28 : s 11 = .bool true := hS 28 (by decide)
      simp only [over, Nat.zero_add, Nat.reduceAdd, Nat.reduceLeDiff, Nat.reduceLT, decide_true, decide_false, Bool.and_true, Bool.and_false, Bool.or_false, Bool.or_true, cond_true, cond_false]
      have HB := Lib.hid (HB.out.trans (hb.mono HB.out.size))
      have HI0 := Lib.hid (heap_up hb HI0.out)
      have HI1 := Lib.hid (heap_up hb HI1.out)
      have HX6 := Lib.hid (heap_up hb HX6.out)
      have HX8 := Lib.hid (heap_up hb HX8.out)
      obtain ⟨wr9, hw8⟩ : ∃ w8, w8 = w := ⟨_, rfl⟩
      subst hw8
      rw [e28]
      clear hS hb e28
      go_wp2_with fail
      refine wp_region_vals (w := wr9) (by kernel_rfl) (SS10 bi0 bi1 na nb ca da cb db su ng sm) (fun t => (decide (4 ≤ t) && decide (t < 5)) || (decide (127 ≤ t) && decide (t < 158))) (by kernel_rfl) (by kernel_rfl) (by kernel_rfl) (SS10_up bi0 bi1 na nb ca da cb db su ng sm) ?_ ?_
      · intro i hi o listed a w hR K hK
        have ho := hR.at_
        have hi : i < 32 := hi
        have hii : i = 0 ∨ i = 1 ∨ i = 2 ∨ i = 3 ∨ i = 4 ∨ i = 5 ∨ i = 6 ∨ i = 7 ∨ i = 8 ∨ i = 9 ∨ i = 10 ∨ i = 11 ∨ i = 12 ∨ i = 13 ∨ i = 14 ∨ i = 15 ∨ i = 16 ∨ i = 17 ∨ i = 18 ∨ i = 19 ∨ i = 20 ∨ i = 21 ∨ i = 22 ∨ i = 23 ∨ i = 24 ∨ i = 25 ∨ i = 26 ∨ i = 27 ∨ i = 28 ∨ i = 29 ∨ i = 30 ∨ i = 31 := by omega
        rcases hii with rfl | rfl | rfl | rfl | rfl | rfl | rfl | rfl | rfl | rfl | rfl | rfl | rfl | rfl | rfl | rfl | rfl | rfl | rfl | rfl | rfl | rfl | rfl | rfl | rfl | rfl | rfl | rfl | rfl | rfl | rfl | rfl
        · simp at ho
          subst ho
          have b5 : a.tmps.getD 5 undef = .bool true := hR.base 5 (by kernel_rfl)
          refine plain_step rfl rfl ?_
          go_simp
          exact hK _ _ (rfl) (Below.refl _ _)
        · simp at ho
          subst ho
          have e0 : a.tmps.getD 127 undef = .bool true := hR.dep ⟨0, .data⟩ (by simp) rfl
          refine plain_step rfl rfl ?_
          go_simp
          exact hK _ _ (rfl) (Below.refl _ _)
        · simp at ho
          subst ho
          have e1 : a.tmps.getD 128 undef = .bool true := hR.dep ⟨1, .guard⟩ (by simp) rfl
          have b10 : a.tmps.getD 10 undef = .bool true := hR.base 10 (by kernel_rfl)
          refine guard_step rfl rfl rfl (b := true) e1 ?_
          go_simp
          exact hK _ _ (rfl) (Below.refl _ _)
        · simp at ho
          subst ho
          have e1 : a.tmps.getD 128 undef = .bool true := hR.dep ⟨1, .data⟩ (by simp) rfl
          have e2 : a.tmps.getD 129 undef = .bool true := hR.dep ⟨2, .data⟩ (by simp) rfl
          refine plain_step rfl rfl ?_
          go_simp
          exact hK _ _ (rfl) (Below.refl _ _)
        · simp at ho
          subst ho
          have e3 : a.tmps.getD 130 undef = .bool true := hR.dep ⟨3, .data⟩ (by simp) rfl
          refine plain_step rfl rfl ?_
          go_simp
          exact hK _ _ (rfl) (Below.refl _ _)
        · simp at ho
          subst ho
          have e4 : a.tmps.getD 131 undef = .bool true := hR.dep ⟨4, .guard⟩ (by simp) rfl
          have b11 : a.tmps.getD 11 undef = .bool true := hR.base 11 (by kernel_rfl)
          refine guard_step rfl rfl rfl (b := true) e4 ?_
          go_simp
          exact hK _ _ (rfl) (Below.refl _ _)
        · simp at ho
          subst ho
          have e4 : a.tmps.getD 131 undef = .bool true := hR.dep ⟨4, .data⟩ (by simp) rfl
          have e5 : a.tmps.getD 132 undef = .bool true := hR.dep ⟨5, .data⟩ (by simp) rfl
          refine plain_step rfl rfl ?_
          go_simp
          exact hK _ _ (rfl) (Below.refl _ _)
        · simp at ho
          subst ho
          have e6 : a.tmps.getD 133 undef = .bool true := hR.dep ⟨6, .data⟩ (by simp) rfl
          refine plain_step rfl rfl ?_
          go_simp
          exact hK _ _ (rfl) (Below.refl _ _)
        · simp at ho
          subst ho
          have e7 : a.tmps.getD 134 undef = .bool true := hR.dep ⟨7, .guard⟩ (by simp) rfl
          have b2 : a.tmps.getD 2 undef = .pointer (some ⟨bi0, 0, none⟩) := hR.base 2 (by kernel_rfl)
          obtain ⟨⟨cx0, cx1, cx2⟩, -⟩ := row_cells (heap_up hR.below HI0.out)
          refine guard_step rfl rfl rfl (b := true) e7 ?_
          go_simp
          exact hK _ _ (rfl) (Below.refl _ _)
        · simp at ho
          subst ho
          have e7 : a.tmps.getD 134 undef = .bool true := hR.dep ⟨7, .guard⟩ (by simp) rfl
          have b3 : a.tmps.getD 3 undef = .pointer (some ⟨bi1, 0, none⟩) := hR.base 3 (by kernel_rfl)
          obtain ⟨⟨cx0, cx1, cx2⟩, -⟩ := row_cells (heap_up hR.below HI1.out)
          refine guard_step rfl rfl rfl (b := true) e7 ?_
          go_simp
          exact hK _ _ (rfl) (Below.refl _ _)
        · simp at ho
          subst ho
          have e8 : a.tmps.getD 135 undef = .agg #[.bool na, .string ca, .string da] := hR.dep ⟨8, .data⟩ (by simp) rfl
          have e9 : a.tmps.getD 136 undef = .agg #[.bool nb, .string cb, .string db] := hR.dep ⟨9, .data⟩ (by simp) rfl
          have e7 : a.tmps.getD 134 undef = .bool true := hR.dep ⟨7, .guard⟩ (by simp) rfl
          refine guard_step rfl rfl rfl (b := true) e7 ?_
          go_simp
          refine (C1.out w).mono ?_
          rintro e w' ⟨rfl, hb⟩
          exact hK _ _ (rfl) hb
        · simp at ho
          subst ho
          have e10 : a.tmps.getD 137 undef = .agg #[.bool su.neg, .string (encS su.num), .string (encS su.den)] := hR.dep ⟨10, .data⟩ (by simp) rfl
          have e7 : a.tmps.getD 134 undef = .bool true := hR.dep ⟨7, .guard⟩ (by simp) rfl
          refine guard_step rfl rfl rfl (b := true) e7 ?_
          go_simp
          refine (C19.out w).mono ?_
          rintro e w' ⟨rfl, hb⟩
          exact hK _ _ (rfl) hb
        · simp at ho
          subst ho
          have e7 : a.tmps.getD 134 undef = .bool true := hR.dep ⟨7, .data⟩ (by simp) rfl
          have e11 : a.tmps.getD 138 undef = .bool true := hR.dep ⟨11, .data⟩ (by simp) rfl
          refine plain_step rfl rfl ?_
          go_simp
          exact hK _ _ (rfl) (Below.refl _ _)
        · simp at ho
          subst ho
          have e12 : a.tmps.getD 139 undef = .bool true := hR.dep ⟨12, .data⟩ (by simp) rfl
          refine plain_step rfl rfl ?_
          go_simp
          exact hK _ _ (rfl) (Below.refl _ _)
        · simp at ho
          subst ho
          have e13 : a.tmps.getD 140 undef = .bool true := hR.dep ⟨13, .guard⟩ (by simp) rfl
          have b2 : a.tmps.getD 2 undef = .pointer (some ⟨bi0, 0, none⟩) := hR.base 2 (by kernel_rfl)
          obtain ⟨⟨cx0, cx1, cx2⟩, -⟩ := row_cells (heap_up hR.below HI0.out)
          refine guard_step rfl rfl rfl (b := true) e13 ?_
          go_simp
          exact hK _ _ (rfl) (Below.refl _ _)
        · simp at ho
          subst ho
          have e14 : a.tmps.getD 141 undef = .agg #[.bool na, .string ca, .string da] := hR.dep ⟨14, .data⟩ (by simp) rfl
          have e13 : a.tmps.getD 140 undef = .bool true := hR.dep ⟨13, .guard⟩ (by simp) rfl
          refine guard_step rfl rfl rfl (b := true) e13 ?_
          go_simp
          refine (C6.out w).mono ?_
          rintro e w' ⟨rfl, hb⟩
          exact hK _ _ (rfl) hb
        · simp at ho
          subst ho
          have e15 : a.tmps.getD 142 undef = .agg #[.bool ng.neg, .string (encS ng.num), .string (encS ng.den)] := hR.dep ⟨15, .data⟩ (by simp) rfl
          have e13 : a.tmps.getD 140 undef = .bool true := hR.dep ⟨13, .guard⟩ (by simp) rfl
          refine guard_step rfl rfl rfl (b := true) e13 ?_
          go_simp
          refine (C20.out w).mono ?_
          rintro e w' ⟨rfl, hb⟩
          exact hK _ _ (rfl) hb
        · simp at ho
          subst ho
          have e13 : a.tmps.getD 140 undef = .bool true := hR.dep ⟨13, .data⟩ (by simp) rfl
          have e16 : a.tmps.getD 143 undef = .bool true := hR.dep ⟨16, .data⟩ (by simp) rfl
          refine plain_step rfl rfl ?_
          go_simp
          exact hK _ _ (rfl) (Below.refl _ _)
        · simp at ho
          subst ho
          have e17 : a.tmps.getD 144 undef = .bool true := hR.dep ⟨17, .data⟩ (by simp) rfl
          refine plain_step rfl rfl ?_
          go_simp
          exact hK _ _ (rfl) (Below.refl _ _)
        · simp at ho
          subst ho
          have e18 : a.tmps.getD 145 undef = .bool true := hR.dep ⟨18, .guard⟩ (by simp) rfl
          have b2 : a.tmps.getD 2 undef = .pointer (some ⟨bi0, 0, none⟩) := hR.base 2 (by kernel_rfl)
          obtain ⟨⟨cx0, cx1, cx2⟩, -⟩ := row_cells (heap_up hR.below HI0.out)
          refine guard_step rfl rfl rfl (b := true) e18 ?_
          go_simp
          exact hK _ _ (rfl) (Below.refl _ _)
        · simp at ho
          subst ho
          have e18 : a.tmps.getD 145 undef = .bool true := hR.dep ⟨18, .guard⟩ (by simp) rfl
          have b3 : a.tmps.getD 3 undef = .pointer (some ⟨bi1, 0, none⟩) := hR.base 3 (by kernel_rfl)
          obtain ⟨⟨cx0, cx1, cx2⟩, -⟩ := row_cells (heap_up hR.below HI1.out)
          refine guard_step rfl rfl rfl (b := true) e18 ?_
          go_simp
          exact hK _ _ (rfl) (Below.refl _ _)
        · simp at ho
          subst ho
          have e18 : a.tmps.getD 145 undef = .bool true := hR.dep ⟨18, .guard⟩ (by simp) rfl
          have b2 : a.tmps.getD 2 undef = .pointer (some ⟨bi0, 0, none⟩) := hR.base 2 (by kernel_rfl)
          obtain ⟨⟨cx0, cx1, cx2⟩, -⟩ := row_cells (heap_up hR.below HI0.out)
          refine guard_step rfl rfl rfl (b := true) e18 ?_
          go_simp
          exact hK _ _ (rfl) (Below.refl _ _)
        · simp at ho
          subst ho
          have e19 : a.tmps.getD 146 undef = .agg #[.bool na, .string ca, .string da] := hR.dep ⟨19, .data⟩ (by simp) rfl
          have e20 : a.tmps.getD 147 undef = .agg #[.bool nb, .string cb, .string db] := hR.dep ⟨20, .data⟩ (by simp) rfl
          have e21 : a.tmps.getD 148 undef = .agg #[.bool na, .string ca, .string da] := hR.dep ⟨21, .data⟩ (by simp) rfl
          have e18 : a.tmps.getD 145 undef = .bool true := hR.dep ⟨18, .guard⟩ (by simp) rfl
          have g19 := e19
          rw [Array.getD_eq_getD_getElem?] at g19
          have g20 := e20
          rw [Array.getD_eq_getD_getElem?] at g20
          have g21 := e21
          rw [Array.getD_eq_getD_getElem?] at g21
          refine guard_step rfl rfl rfl (b := true) e18 ?_
          go_simp
          refine hK _ _ ?_ ((Below.refl _ _).alloc (Nat.le_refl _) _); exact lit_lstR (l := [⟨na, ca, da⟩, ⟨nb, cb, db⟩, ⟨na, ca, da⟩]) (cap := 3) (heap_alloc_new w _) (by simp) rfl
        · simp at ho
          subst ho
          have e22 := hR.dep ⟨22, .data⟩ (by simp) rfl
          have e18 : a.tmps.getD 145 undef = .bool true := hR.dep ⟨18, .guard⟩ (by simp) rfl
          have f22 : LstR w (a.tmps.getD 149 undef) [⟨na, ca, da⟩, ⟨nb, cb, db⟩, ⟨na, ca, da⟩] := e22
          rw [Array.getD_eq_getD_getElem?] at f22
          refine guard_step rfl rfl rfl (b := true) e18 ?_
          go_simp
          refine (HSUM.out w _ f22).mono ?_
          rintro e w' ⟨rfl, hb⟩
          exact hK _ _ (rfl) hb
        · simp at ho
          subst ho
          have e18 : a.tmps.getD 145 undef = .bool true := hR.dep ⟨18, .guard⟩ (by simp) rfl
          have b2 : a.tmps.getD 2 undef = .pointer (some ⟨bi0, 0, none⟩) := hR.base 2 (by kernel_rfl)
          obtain ⟨⟨cx0, cx1, cx2⟩, -⟩ := row_cells (heap_up hR.below HI0.out)
          refine guard_step rfl rfl rfl (b := true) e18 ?_
          go_simp
          exact hK _ _ (rfl) (Below.refl _ _)
        · simp at ho
          subst ho
          have e18 : a.tmps.getD 145 undef = .bool true := hR.dep ⟨18, .guard⟩ (by simp) rfl
          have b3 : a.tmps.getD 3 undef = .pointer (some ⟨bi1, 0, none⟩) := hR.base 3 (by kernel_rfl)
          obtain ⟨⟨cx0, cx1, cx2⟩, -⟩ := row_cells (heap_up hR.below HI1.out)
          refine guard_step rfl rfl rfl (b := true) e18 ?_
          go_simp
          exact hK _ _ (rfl) (Below.refl _ _)
        · simp at ho
          subst ho
          have e18 : a.tmps.getD 145 undef = .bool true := hR.dep ⟨18, .guard⟩ (by simp) rfl
          have b2 : a.tmps.getD 2 undef = .pointer (some ⟨bi0, 0, none⟩) := hR.base 2 (by kernel_rfl)
          obtain ⟨⟨cx0, cx1, cx2⟩, -⟩ := row_cells (heap_up hR.below HI0.out)
          refine guard_step rfl rfl rfl (b := true) e18 ?_
          go_simp
          exact hK _ _ (rfl) (Below.refl _ _)
        · simp at ho
          subst ho
          have e24 : a.tmps.getD 151 undef = .agg #[.bool na, .string ca, .string da] := hR.dep ⟨24, .data⟩ (by simp) rfl
          have e25 : a.tmps.getD 152 undef = .agg #[.bool nb, .string cb, .string db] := hR.dep ⟨25, .data⟩ (by simp) rfl
          have e26 : a.tmps.getD 153 undef = .agg #[.bool na, .string ca, .string da] := hR.dep ⟨26, .data⟩ (by simp) rfl
          have e18 : a.tmps.getD 145 undef = .bool true := hR.dep ⟨18, .guard⟩ (by simp) rfl
          have g24 := e24
          rw [Array.getD_eq_getD_getElem?] at g24
          have g25 := e25
          rw [Array.getD_eq_getD_getElem?] at g25
          have g26 := e26
          rw [Array.getD_eq_getD_getElem?] at g26
          refine guard_step rfl rfl rfl (b := true) e18 ?_
          go_simp
          refine hK _ _ ?_ ((Below.refl _ _).alloc (Nat.le_refl _) _); exact lit_lstR (l := [⟨na, ca, da⟩, ⟨nb, cb, db⟩, ⟨na, ca, da⟩]) (cap := 3) (heap_alloc_new w _) (by simp) rfl
        · simp at ho
          subst ho
          have e27 := hR.dep ⟨27, .data⟩ (by simp) rfl
          have e18 : a.tmps.getD 145 undef = .bool true := hR.dep ⟨18, .guard⟩ (by simp) rfl
          have f27 : LstR w (a.tmps.getD 154 undef) [⟨na, ca, da⟩, ⟨nb, cb, db⟩, ⟨na, ca, da⟩] := e27
          rw [Array.getD_eq_getD_getElem?] at f27
          refine guard_step rfl rfl rfl (b := true) e18 ?_
          go_simp
          refine (HSUR.out w _ f27).mono ?_
          rintro e w' ⟨rfl, hb⟩
          exact hK _ _ (rfl) hb
        · simp at ho
          subst ho
          have e23 : a.tmps.getD 150 undef = .agg #[.bool sm.neg, .string (encS sm.num), .string (encS sm.den)] := hR.dep ⟨23, .data⟩ (by simp) rfl
          have e28 : a.tmps.getD 155 undef = .agg #[.bool sm.neg, .string (encS sm.num), .string (encS sm.den)] := hR.dep ⟨28, .data⟩ (by simp) rfl
          have e18 : a.tmps.getD 145 undef = .bool true := hR.dep ⟨18, .guard⟩ (by simp) rfl
          refine guard_step rfl rfl rfl (b := true) e18 ?_
          go_simp
          exact hK _ _ (rfl) (Below.refl _ _)
        · simp at ho
          subst ho
          have e18 : a.tmps.getD 145 undef = .bool true := hR.dep ⟨18, .data⟩ (by simp) rfl
          have e29 : a.tmps.getD 156 undef = .bool true := hR.dep ⟨29, .data⟩ (by simp) rfl
          refine plain_step rfl rfl ?_
          go_simp
          exact hK _ _ (rfl) (Below.refl _ _)
        · simp at ho
          subst ho
          have e30 : a.tmps.getD 157 undef = .bool true := hR.dep ⟨30, .data⟩ (by simp) rfl
          refine plain_step rfl rfl ?_
          go_simp
          exact hK _ _ (rfl) (Below.refl _ _)
      · intro s w hS hb
        have e31 : s 4 = .bool true := hS 31 (by decide)
        simp only [over, Nat.zero_add, Nat.reduceAdd, Nat.reduceLeDiff, Nat.reduceLT, decide_true, decide_false, Bool.and_true, Bool.and_false, Bool.or_false, Bool.or_true, cond_true, cond_false]
        have HB := Lib.hid (HB.out.trans (hb.mono HB.out.size))
        have HI0 := Lib.hid (heap_up hb HI0.out)
        have HI1 := Lib.hid (heap_up hb HI1.out)
        have HX6 := Lib.hid (heap_up hb HX6.out)
        have HX8 := Lib.hid (heap_up hb HX8.out)
        obtain ⟨wr10, hw8⟩ : ∃ w8, w8 = w := ⟨_, rfl⟩
        subst hw8
        rw [e31]
        clear hS hb e31
        go_wp2_with fail
        go_ret
        exact ⟨rfl, HB.out⟩
end Go.Proofs.YtancflpioigjbaaGreatDoor.ratioRaw
