/- pieces of the reference model: it is the plain combination; each theorem names its conditions. -/
import Derived.Test.YtodkppeikpaclaaSpnF
import Derived.StillTailTactics
namespace Go.Proofs.Ytodkppeikpaclaa
open Go.RowKit Go.Shelf
open Spn
set_option linter.unusedVariables false

theorem below_drewN {B : Nat} {a w : World} (h : Below B a w) (n : Nat) : Below B a (w.drewN n) := ⟨h.os, h.tape, h.output, h.size, h.block⟩
theorem own_open {w : World} {base : Nat} {e : TypeId} {size : Nat} {v : Value} {n : Nat} {xs : List Value} (h : w.ownsRow base e size v n xs) : ∃ p cap, v = .slice p n cap := by
  rcases h.2 with ⟨rfl, rfl⟩ | ⟨g, cap, cur, rfl, _⟩
  · exact ⟨_, _, rfl⟩
  · exact ⟨_, _, rfl⟩
theorem pcs_two {P : Int → Bool} {cur : Option Sp} {x y : Int} {r : List Int} : pcs P cur (x :: y :: r) = if P x = true then (match cur with | none => pcs P (some (x, y)) (y :: r) | some (s, e) => if e = x then pcs P (some (s, y)) (y :: r) else (s, e) :: pcs P (some (x, y)) (y :: r)) else pcs P cur (y :: r) := by
  cases cur <;> cases hp : P x <;> simp [pcs, hp]
theorem pcs_end {P : Int → Bool} {cur : Option Sp} {c : List Int} (h : c.length ≤ 1) : pcs P cur c = cur.toList := by
  match c, h with
  | [], _ => rw [pcs]
  | [x], _ => rw [pcs]
  | x :: y :: r, h => simp at h
theorem cells_two {w : World} {b : Nat} {x y : Value} {t : TypeId} (h : w.heap[b]? = some (.cells #[x, y] t (0, 0))) : ∀ (j : Nat) (u : Value), [x, y][j]? = some u → w.cell? ((⟨b, 0, none⟩ : Addr).add j) = some u := by
  intro j u hu
  have hj : j = 0 ∨ j = 1 := by
    have := (List.getElem?_eq_some_iff.1 hu).1
    simp at this; omega
  rcases hj with rfl | rfl <;> (simp at hu; subst hu; rw [show (⟨b, 0, none⟩ : Addr).add _ = ⟨b, _, none⟩ from rfl, Lib.cell_of_heap h]; rfl)
theorem cells2_set : ∀ (l : List Sp) (s e y : Int), (cells2 (l ++ (some (s, e)).toList)).set (l.length * 2 + 1) (.int .i64 y) = cells2 (l ++ (some (s, y)).toList)
  | [], s, e, y => rfl
  | a :: l, s, e, y => by
    have h := cells2_set l s e y
    have e1 : ∀ z, cells2 (a :: l ++ (some (s, z)).toList) = .int .i64 a.1 :: .int .i64 a.2 :: cells2 (l ++ (some (s, z)).toList) := fun z => by simp [cells2]
    rw [e1, e1, List.length_cons, show (l.length + 1) * 2 + 1 = l.length * 2 + 1 + 1 + 1 by omega, List.set_cons_succ, List.set_cons_succ, h]
def FrP (B m co g off cl cc k : Nat) (x y : Int) (po : Option Addr) (xs : List Value) (t0 t1 t2 t3 t4 t5 t6 t10 t11 t12 t13 t14 t15 t16 t17 t18 t19 t20 t21 t22 t23 t24 t25 t26 t27 t28 t29 t30 t31 t32 t33 t34 t35 t36 t37 t38 t39 t40 t41 t42 t43 t44 t45 t46 t47 t48 t49 t50 t51 t52 t53 t54 t55 t56 t57 t58 t59 t60 t61 t62 t63 t64 t65 t66 t67 t68 t69 t70 t71 t72 t73 t74 t75 t76 t77 t78 t79 t80 t81 t82 t83 t84 t85 t86 t87 t88 t89 t90 t91 t92 t93 t107 : Value) (s : Nat → Value) : Array Value := #[t0, t1, t2, t3, t4, t5, t6, .slice (some ⟨g, off, none⟩) cl cc, s 13, .int .i64 (k : Int), t10, t11, t12, t13, t14, t15, t16, t17, t18, t19, t20, t21, t22, t23, t24, t25, t26, t27, t28, t29, t30, t31, t32, t33, t34, t35, t36, t37, t38, t39, t40, t41, t42, t43, t44, t45, t46, t47, t48, t49, t50, t51, t52, t53, t54, t55, t56, t57, t58, t59, t60, t61, t62, t63, t64, t65, t66, t67, t68, t69, t70, t71, t72, t73, t74, t75, t76, t77, t78, t79, t80, t81, t82, t83, t84, t85, t86, t87, t88, t89, t90, t91, t92, t93, s 0, s 1, s 2, s 3, s 4, s 5, s 6, s 7, s 8, s 9, s 10, s 11, s 12, t107]
def InP (B m co g off cl cc k : Nat) (x y : Int) (po : Option Addr) (xs : List Value) (t0 t1 t2 t3 t4 t5 t6 t10 t11 t12 t13 t14 t15 t16 t17 t18 t19 t20 t21 t22 t23 t24 t25 t26 t27 t28 t29 t30 t31 t32 t33 t34 t35 t36 t37 t38 t39 t40 t41 t42 t43 t44 t45 t46 t47 t48 t49 t50 t51 t52 t53 t54 t55 t56 t57 t58 t59 t60 t61 t62 t63 t64 t65 t66 t67 t68 t69 t70 t71 t72 t73 t74 t75 t76 t77 t78 t79 t80 t81 t82 t83 t84 t85 t86 t87 t88 t89 t90 t91 t92 t93 t107 : Value) (w1 : World) (listed : Array Bool) (a : Act) (w : World) : Prop :=
  ∃ (s : Nat → Value) (b11 : Nat), listed.size = 14 ∧ a = { tmps := FrP B m co g off cl cc k x y po xs t0 t1 t2 t3 t4 t5 t6 t10 t11 t12 t13 t14 t15 t16 t17 t18 t19 t20 t21 t22 t23 t24 t25 t26 t27 t28 t29 t30 t31 t32 t33 t34 t35 t36 t37 t38 t39 t40 t41 t42 t43 t44 t45 t46 t47 t48 t49 t50 t51 t52 t53 t54 t55 t56 t57 t58 t59 t60 t61 t62 t63 t64 t65 t66 t67 t68 t69 t70 t71 t72 t73 t74 t75 t76 t77 t78 t79 t80 t81 t82 t83 t84 t85 t86 t87 t88 t89 t90 t91 t92 t93 t107 s, defers := [] } ∧
    (listed.getD 0 false = true → s 0 = .slice po m co) ∧
    (listed.getD 1 false = true → s 1 = .slice (some ⟨g, off, none⟩) cl cc) ∧
    (listed.getD 2 false = true → s 2 = .int .i64 (k : Int)) ∧
    (listed.getD 3 false = true → s 3 = .pointer (some ⟨g, off + k, none⟩)) ∧
    (listed.getD 4 false = true → s 4 = .int .i64 x) ∧
    (listed.getD 5 false = true → s 5 = .slice (some ⟨g, off, none⟩) cl cc) ∧
    (listed.getD 6 false = true → s 6 = .int .i64 (k : Int)) ∧
    (listed.getD 7 false = true → s 7 = .int .i64 ((k : Int) + 1)) ∧
    (listed.getD 8 false = true → s 8 = .pointer (some ⟨g, off + (k + 1), none⟩)) ∧
    (listed.getD 9 false = true → s 9 = .int .i64 y) ∧
    (listed.getD 10 false = true → s 10 = .agg #[.int .i64 x, .int .i64 y]) ∧
    (listed.getD 11 false = true → s 11 = .slice (some ⟨b11, 0, none⟩) 1 1) ∧
    (listed.getD 12 false = true → w.ownsRow B 33 2 (s 12) (m + 1) (xs ++ [.int .i64 x, .int .i64 y])) ∧
    (listed.getD 13 false = true → w.ownsRow B 33 2 (s 13) (m + 1) (xs ++ [.int .i64 x, .int .i64 y])) ∧
    (listed.getD 13 false = false → s 13 = .slice po m co) ∧
    (listed.getD 13 false = true → listed.getD 0 false = true) ∧
    (listed.getD 13 false = true → listed.getD 12 false = true) ∧
    (listed.getD 12 false = false → w.ownsRow B 33 2 (.slice po m co) m xs) ∧
    (listed.getD 11 false = true → listed.getD 12 false = false → w.heap[b11]? = some (.cells #[.int .i64 x, .int .i64 y] 33 (0, 0))) ∧ Below w1.heap.size w1 w
set_option maxHeartbeats 8000000 in
set_option maxRecDepth 100000 in
theorem rpieces_any (kd : Int) (f : Bool → Bool → Bool) (hk : kd = 0 ∧ f = orF ∨ kd = 1 ∧ f = andF ∨ kd = 2 ∧ f = lessF) (va vb : Value) (la lb : List Sp) (w : World) (ha : la.length ≤ 10000) (hb : lb.length ≤ 10000) (hla : Lst w va la) (hlb : Lst w vb lb) :
    Calls Try.prog 39 #[va, vb, .int .i64 kd] w (fun e w' => ∃ v', e = .returned v' ∧ Lst w' v' (comb f la lb) ∧ Below w.heap.size w w') := by
  obtain ⟨i0, hinf, hz0, hz1, hz2⟩ := info_parts infoSpan
  have hf0 : f false false = false := by rcases hk with ⟨_, rfl⟩ | ⟨_, rfl⟩ | ⟨_, rfl⟩ <;> rfl
  have HPC := Lib.hid (pcs_comb hf0 la lb)
  have HCL := refB_len (la ++ lb)
  have HBN := Lib.hid (rbounds_any va vb la lb w ha hb hla hlb)
  have HK := Lib.hid hk
  have HLA := Lib.hid hla; have HLB := Lib.hid hlb
  obtain ⟨pa, ca, rfl, hlena, -⟩ := hla.open
  obtain ⟨pb, cb, rfl, hlenb, -⟩ := hlb.open
  clear hk hla hlb hf0 hlena hlenb
  obtain ⟨C, hC⟩ : ∃ C, refB (la ++ lb) = C := ⟨_, rfl⟩
  rw [hC] at HPC HCL HBN
  have hcl : C.length ≤ 40000 := by simp at HCL; omega
  clear HCL hC
  obtain ⟨P, hP⟩ : ∃ P, both f la lb = P := ⟨_, rfl⟩
  have HPF : Hid (∀ d, P d = f (hasB la d) (hasB lb d)) := Lib.hid (fun d => by rw [← hP]; rfl)
  rw [hP] at HPC
  clear hP
  go_enter Try.func39, Try.ntmps39
  go_wp2_with fail
  refine HBN.out.mono ?_
  rintro e w1 ⟨vc, rfl, hlc, hb1⟩
  obtain ⟨pc, cc, rfl, hlenc, hcell⟩ := hlc
  have HB1 := Lib.hid hb1; have HCC := Lib.hid hcell
  have HLA1 := Lib.hid (HLA.out.up hb1); have HLB1 := Lib.hid (HLB.out.up hb1)
  clear hb1 hcell hlenc
  go_wp2_with fail
  go_loopw [8, 9] (fun vo i wr => ∃ (k : Nat) (cur : Option Sp) (ini : List Sp), k ≤ C.length ∧ i = .int .i64 (k : Int) ∧ Hid (wr.ownsRow w1.heap.size 33 2 vo (ini ++ cur.toList).length (cells2 (ini ++ cur.toList))) ∧ (cur = none → ini = []) ∧ (ini ++ cur.toList).length ≤ k ∧ Hid (pcs P none C = ini ++ pcs P cur (C.drop k)) ∧ Hid (Below w1.heap.size w1 wr)) (fun _ i _ => C.length - (intOf i).toNat)
  case atStart => exact ⟨0, none, [], by omega, rfl, Lib.hid (World.ownsRow_nil _ _ _ _), fun _ => rfl, by simp, Lib.hid rfl, Lib.hid (Below.refl _ _)⟩
  case round =>
    obtain ⟨k, cur, ini, hk, rfl, HOWN, hcur, hol, HPR, HB⟩ := hrel
    obtain ⟨m, hm⟩ : ∃ m, (ini ++ cur.toList).length = m := ⟨_, rfl⟩
    rw [hm] at HOWN hol
    have HM := Lib.hid hm
    obtain ⟨po, co, rfl⟩ := own_open HOWN.out
    clear hm
    by_cases hlt : k + 1 < C.length
    · have hlt' : (k : Int) + 1 < (C.length : Int) := by omega
      have hk1 : k < C.length := by omega
      obtain ⟨g, off, rfl, hg, e1⟩ := HCC.out k hk1
      obtain ⟨g', off', hgg, hg', e2⟩ := HCC.out (k + 1) hlt
      cases hgg
      have HD1 := Lib.hid (List.drop_eq_getElem_cons hk1)
      have HD2 := Lib.hid (List.drop_eq_getElem_cons hlt)
      obtain ⟨x, hx⟩ : ∃ x, C[k] = x := ⟨_, rfl⟩
      obtain ⟨y, hy⟩ : ∃ y, C[k + 1] = y := ⟨_, rfl⟩
      rw [hx] at e1 HD1; rw [hy] at e2 HD2
      have HPN : Hid (pcs P none C = ini ++ pcs P cur (x :: y :: C.drop (k + 1 + 1))) := Lib.hid (by rw [HPR.out, HD1.out, HD2.out])
      have c1 : wr.cell? ⟨g, off + k, none⟩ = some (.int .i64 x) := by rw [cell_up HB.out hg]; exact e1
      have HE1 := Lib.hid e1; have HE2 := Lib.hid e2
      clear hx hy e1 e2
      go_wp2_with fail
      refine (rHas_any x _ la _ (HLA1.out.up HB.out)).mono ?_
      rintro e w2 ⟨rfl, hb2⟩
      have HB2 := Lib.hid (HB.out.trans (hb2.mono HB.out.size))
      have HO2 := Lib.hid (own_up HOWN.out hb2)
      have c2 : w2.cell? ⟨g, off + k, none⟩ = some (.int .i64 x) := by rw [cell_up HB2.out hg]; exact HE1.out
      clear hb2 c1
      go_wp2_with fail
      refine (rHas_any x _ lb _ (HLB1.out.up HB2.out)).mono ?_
      rintro e w3 ⟨rfl, hb3⟩
      have HB3 := Lib.hid (HB2.out.trans (hb3.mono HB2.out.size))
      have HO3 := Lib.hid (own_up HO2.out hb3)
      clear hb3 c2
      have HPX : Hid (P x = f (hasB la x) (hasB lb x)) := Lib.hid (HPF.out x)
      obtain ⟨p, hp⟩ : ∃ p, hasB la x = p := ⟨_, rfl⟩
      obtain ⟨q, hq⟩ : ∃ q, hasB lb x = q := ⟨_, rfl⟩
      rw [hp, hq] at HPX
      rw [hp, hq]
      clear hp hq
      go_upto_region 8 with fail
      go_cut [12] (fun v12 wx => v12 = .bool (P x) ∧ wx = w3)
      case first =>
        have h8 := HK.out
        rcases h8 with ⟨rfl, rfl⟩ | ⟨rfl, rfl⟩ | ⟨rfl, rfl⟩ <;> cases p <;> cases q
        all_goals
          go_wp2_with fail
          go_meet
          exact ⟨by rw [HPX.out]; rfl, rfl⟩
      obtain ⟨rfl, rfl⟩ := hcut
      have hpp : P x = true ∨ P x = false := by cases P x <;> simp
      rcases hpp with hp | hp
      · have HPT := Lib.hid hp
        rw [hp]
        clear hp
        have c1 : wc.cell? ⟨g, off + k, none⟩ = some (.int .i64 x) := by rw [cell_up HB3.out hg]; exact HE1.out
        have c2 : wc.cell? ⟨g, off + (k + 1), none⟩ = some (.int .i64 y) := by rw [cell_up HB3.out hg]; exact HE2.out
        have c2' : wc.cell? ⟨g, off + k + 1, none⟩ = some (.int .i64 y) := c2
        rcases cur with _ | ⟨sq, e⟩
        · have hini := hcur rfl
          subst hini
          have hm0 : m = 0 := by rw [← HM.out]; rfl
          subst hm0
          go_wp2_with fail
          go_quiet (fail)
          go_wp2_with fail
          obtain ⟨wq, hwq⟩ : ∃ wq, wc.drewN nq = wq := ⟨_, rfl⟩
          have HBW := Lib.hid (show Below w1.heap.size w1 wq from by rw [← hwq]; exact below_drewN HB3.out nq)
          have HOWNP : Hid (wq.ownsRow w1.heap.size 33 2 (.slice po 0 co) 0 []) := Lib.hid (by rw [← hwq]; exact HO3.out)
          have HBB := Lib.hid (Nat.le_refl w1.heap.size)
          have HBS := Lib.hid (Nat.le_refl w1.heap.size)
          rw [hwq]
          clear hwq c1 c2 c2'
          refine wp_region_inv (InP w1.heap.size 0 co g off C.length cc k x y po ([] : List Value) (Value.slice pa la.length ca) (Value.slice pb lb.length cb) (Value.int IntKind.i64 kd) undef undef undef (Value.slice none 0 0) (Value.bool p) (Value.bool q) (Value.bool true) (Value.int IntKind.i64 0) (Value.slice pa la.length ca) (Value.slice pb lb.length cb) (Value.slice (some { block := g, off := off }) C.length cc) (u17) (u18) (u19) (u20) (u21) (u22) (u23) (u24) (u25) (u26) (u27) (u28) (u29) (u30) (u31) (u32) (u33) (u34) (u35) (u36) (u37) (u38) (u39) (u40) (u41) (u42) (u43) (u44) (u45) (u46) (u47) (u48) (u49) (u50) (u51) (u52) (u53) (u54) (u55) (u56) (u57) (u58) (u59) (u60) (u61) (u62) (u63) (u64) (Value.bool true) (Value.bool false) (Value.slice po 0 co) (Value.int IntKind.i64 0) (Value.int IntKind.i64 0) (Value.bool false) (Value.bool false) undef undef undef undef undef undef undef undef undef undef undef (Value.bool false) (u84) (u85) (u86) (u87) (u88) (u89) (u90) (u91) (u92) (u93) undef w1) (by kernel_rfl) ?h0 ?hstep ?hdone
          case h0 => exact ⟨fun j => if j = 0 then u94 else if j = 1 then u95 else if j = 2 then u96 else if j = 3 then u97 else if j = 4 then u98 else if j = 5 then u99 else if j = 6 then u100 else if j = 7 then u101 else if j = 8 then u102 else if j = 9 then u103 else if j = 10 then u104 else if j = 11 then u105 else if j = 12 then u106 else .slice po 0 co, 0, rfl, rfl, (fun h => absurd h (by simp)), (fun h => absurd h (by simp)), (fun h => absurd h (by simp)), (fun h => absurd h (by simp)), (fun h => absurd h (by simp)), (fun h => absurd h (by simp)), (fun h => absurd h (by simp)), (fun h => absurd h (by simp)), (fun h => absurd h (by simp)), (fun h => absurd h (by simp)), (fun h => absurd h (by simp)), (fun h => absurd h (by simp)), (fun h => absurd h (by simp)), (fun h => absurd h (by simp)), (fun _ => rfl), (fun h => absurd h (by simp)), (fun h => absurd h (by simp)), (fun _ => HOWNP.out), (fun h => absurd h (by simp)), HBW.out.drew⟩
          case hstep =>
            rintro listed a w ⟨s, b11, hsz, rfl, c0, c1, c2, c3, c4, c5, c6, c7, c8, c9, c10, c11, c12, c13, i13, n13_0, n13_12, ow, d11, cbl⟩ i o ho hun hall
            have hun' : listed.getD i false = false := getD_none hun
            have hi : i < 14 := (Array.getElem?_eq_some_iff.1 ho).1
            have hii : i = 0 ∨ i = 1 ∨ i = 2 ∨ i = 3 ∨ i = 4 ∨ i = 5 ∨ i = 6 ∨ i = 7 ∨ i = 8 ∨ i = 9 ∨ i = 10 ∨ i = 11 ∨ i = 12 ∨ i = 13 := by omega
            rcases hii with rfl | rfl | rfl | rfl | rfl | rfl | rfl | rfl | rfl | rfl | rfl | rfl | rfl | rfl
            · simp at ho
              subst ho
              have q13 : listed.getD 13 false = false := by
                cases hq : listed.getD 13 false
                · rfl
                · exact absurd (n13_0 hq) (by rw [hun']; simp)
              have w13 := i13 q13
              refine wpOp_step rfl (fun K' hK => ?_)
              simp only [FrP]
              go_simp
              refine hK _ _ ⟨fun j => if j = 0 then .slice po 0 co else s j, b11, by simpa using hsz, by simp [FrP, w13], fun _ => by simp, fun h => by rw [getD_set_ne false (by decide)] at h; simpa using c1 h, fun h => by rw [getD_set_ne false (by decide)] at h; simpa using c2 h, fun h => by rw [getD_set_ne false (by decide)] at h; simpa using c3 h, fun h => by rw [getD_set_ne false (by decide)] at h; simpa using c4 h, fun h => by rw [getD_set_ne false (by decide)] at h; simpa using c5 h, fun h => by rw [getD_set_ne false (by decide)] at h; simpa using c6 h, fun h => by rw [getD_set_ne false (by decide)] at h; simpa using c7 h, fun h => by rw [getD_set_ne false (by decide)] at h; simpa using c8 h, fun h => by rw [getD_set_ne false (by decide)] at h; simpa using c9 h, fun h => by rw [getD_set_ne false (by decide)] at h; simpa using c10 h, fun h => by rw [getD_set_ne false (by decide)] at h; simpa using c11 h, fun h => by rw [getD_set_ne false (by decide)] at h; simpa using (c12 h), fun h => by rw [getD_set_ne false (by decide)] at h; simpa using (c13 h), fun h => by rw [getD_set_ne false (by decide)] at h; simpa using i13 h, fun _ => by simp [hsz], fun h => by rw [getD_set_ne false (by decide)] at h; exact getD_set_true (n13_12 h), fun h => by rw [getD_set_ne false (by decide)] at h; exact ow h, fun h h' => by rw [getD_set_ne false (by decide)] at h h'; exact d11 h h', cbl⟩
            · simp at ho
              subst ho
              refine wpOp_step rfl (fun K' hK => ?_)
              simp only [FrP]
              go_simp
              refine hK _ _ ⟨fun j => if j = 1 then .slice (some ⟨g, off, none⟩) C.length cc else s j, b11, by simpa using hsz, by simp [FrP], fun h => by rw [getD_set_ne false (by decide)] at h; simpa using c0 h, fun _ => by simp, fun h => by rw [getD_set_ne false (by decide)] at h; simpa using c2 h, fun h => by rw [getD_set_ne false (by decide)] at h; simpa using c3 h, fun h => by rw [getD_set_ne false (by decide)] at h; simpa using c4 h, fun h => by rw [getD_set_ne false (by decide)] at h; simpa using c5 h, fun h => by rw [getD_set_ne false (by decide)] at h; simpa using c6 h, fun h => by rw [getD_set_ne false (by decide)] at h; simpa using c7 h, fun h => by rw [getD_set_ne false (by decide)] at h; simpa using c8 h, fun h => by rw [getD_set_ne false (by decide)] at h; simpa using c9 h, fun h => by rw [getD_set_ne false (by decide)] at h; simpa using c10 h, fun h => by rw [getD_set_ne false (by decide)] at h; simpa using c11 h, fun h => by rw [getD_set_ne false (by decide)] at h; simpa using (c12 h), fun h => by rw [getD_set_ne false (by decide)] at h; simpa using (c13 h), fun h => by rw [getD_set_ne false (by decide)] at h; simpa using i13 h, fun h => by rw [getD_set_ne false (by decide)] at h; exact getD_set_true (n13_0 h), fun h => by rw [getD_set_ne false (by decide)] at h; exact getD_set_true (n13_12 h), fun h => by rw [getD_set_ne false (by decide)] at h; exact ow h, fun h h' => by rw [getD_set_ne false (by decide)] at h h'; exact d11 h h', cbl⟩
            · simp at ho
              subst ho
              refine wpOp_step rfl (fun K' hK => ?_)
              simp only [FrP]
              go_simp
              refine hK _ _ ⟨fun j => if j = 2 then .int .i64 (k : Int) else s j, b11, by simpa using hsz, by simp [FrP], fun h => by rw [getD_set_ne false (by decide)] at h; simpa using c0 h, fun h => by rw [getD_set_ne false (by decide)] at h; simpa using c1 h, fun _ => by simp, fun h => by rw [getD_set_ne false (by decide)] at h; simpa using c3 h, fun h => by rw [getD_set_ne false (by decide)] at h; simpa using c4 h, fun h => by rw [getD_set_ne false (by decide)] at h; simpa using c5 h, fun h => by rw [getD_set_ne false (by decide)] at h; simpa using c6 h, fun h => by rw [getD_set_ne false (by decide)] at h; simpa using c7 h, fun h => by rw [getD_set_ne false (by decide)] at h; simpa using c8 h, fun h => by rw [getD_set_ne false (by decide)] at h; simpa using c9 h, fun h => by rw [getD_set_ne false (by decide)] at h; simpa using c10 h, fun h => by rw [getD_set_ne false (by decide)] at h; simpa using c11 h, fun h => by rw [getD_set_ne false (by decide)] at h; simpa using (c12 h), fun h => by rw [getD_set_ne false (by decide)] at h; simpa using (c13 h), fun h => by rw [getD_set_ne false (by decide)] at h; simpa using i13 h, fun h => by rw [getD_set_ne false (by decide)] at h; exact getD_set_true (n13_0 h), fun h => by rw [getD_set_ne false (by decide)] at h; exact getD_set_true (n13_12 h), fun h => by rw [getD_set_ne false (by decide)] at h; exact ow h, fun h h' => by rw [getD_set_ne false (by decide)] at h h'; exact d11 h h', cbl⟩
            · simp at ho
              subst ho
              have u1 : listed.getD 1 false = true := hall ⟨1, .data⟩ (by simp) rfl
              have e1 := c1 u1
              have u2 : listed.getD 2 false = true := hall ⟨2, .data⟩ (by simp) rfl
              have e2 := c2 u2
              refine wpOp_step rfl (fun K' hK => ?_)
              simp only [FrP]
              go_simp
              refine hK _ _ ⟨fun j => if j = 3 then .pointer (some ⟨g, off + k, none⟩) else s j, b11, by simpa using hsz, by simp [FrP, e1, e2], fun h => by rw [getD_set_ne false (by decide)] at h; simpa using c0 h, fun h => by rw [getD_set_ne false (by decide)] at h; simpa using c1 h, fun h => by rw [getD_set_ne false (by decide)] at h; simpa using c2 h, fun _ => by simp, fun h => by rw [getD_set_ne false (by decide)] at h; simpa using c4 h, fun h => by rw [getD_set_ne false (by decide)] at h; simpa using c5 h, fun h => by rw [getD_set_ne false (by decide)] at h; simpa using c6 h, fun h => by rw [getD_set_ne false (by decide)] at h; simpa using c7 h, fun h => by rw [getD_set_ne false (by decide)] at h; simpa using c8 h, fun h => by rw [getD_set_ne false (by decide)] at h; simpa using c9 h, fun h => by rw [getD_set_ne false (by decide)] at h; simpa using c10 h, fun h => by rw [getD_set_ne false (by decide)] at h; simpa using c11 h, fun h => by rw [getD_set_ne false (by decide)] at h; simpa using (c12 h), fun h => by rw [getD_set_ne false (by decide)] at h; simpa using (c13 h), fun h => by rw [getD_set_ne false (by decide)] at h; simpa using i13 h, fun h => by rw [getD_set_ne false (by decide)] at h; exact getD_set_true (n13_0 h), fun h => by rw [getD_set_ne false (by decide)] at h; exact getD_set_true (n13_12 h), fun h => by rw [getD_set_ne false (by decide)] at h; exact ow h, fun h h' => by rw [getD_set_ne false (by decide)] at h h'; exact d11 h h', cbl⟩
            · simp at ho
              subst ho
              have u3 : listed.getD 3 false = true := hall ⟨3, .data⟩ (by simp) rfl
              have e3 := c3 u3
              have x0 : w.cell? ⟨g, off + k, none⟩ = some (.int .i64 x) := by rw [cell_up cbl hg]; exact HE1.out
              refine wpOp_step rfl (fun K' hK => ?_)
              simp only [FrP]
              go_simp
              refine hK _ _ ⟨fun j => if j = 4 then .int .i64 x else s j, b11, by simpa using hsz, by simp [FrP, e3], fun h => by rw [getD_set_ne false (by decide)] at h; simpa using c0 h, fun h => by rw [getD_set_ne false (by decide)] at h; simpa using c1 h, fun h => by rw [getD_set_ne false (by decide)] at h; simpa using c2 h, fun h => by rw [getD_set_ne false (by decide)] at h; simpa using c3 h, fun _ => by simp, fun h => by rw [getD_set_ne false (by decide)] at h; simpa using c5 h, fun h => by rw [getD_set_ne false (by decide)] at h; simpa using c6 h, fun h => by rw [getD_set_ne false (by decide)] at h; simpa using c7 h, fun h => by rw [getD_set_ne false (by decide)] at h; simpa using c8 h, fun h => by rw [getD_set_ne false (by decide)] at h; simpa using c9 h, fun h => by rw [getD_set_ne false (by decide)] at h; simpa using c10 h, fun h => by rw [getD_set_ne false (by decide)] at h; simpa using c11 h, fun h => by rw [getD_set_ne false (by decide)] at h; simpa using (c12 h), fun h => by rw [getD_set_ne false (by decide)] at h; simpa using (c13 h), fun h => by rw [getD_set_ne false (by decide)] at h; simpa using i13 h, fun h => by rw [getD_set_ne false (by decide)] at h; exact getD_set_true (n13_0 h), fun h => by rw [getD_set_ne false (by decide)] at h; exact getD_set_true (n13_12 h), fun h => by rw [getD_set_ne false (by decide)] at h; exact ow h, fun h h' => by rw [getD_set_ne false (by decide)] at h h'; exact d11 h h', cbl⟩
            · simp at ho
              subst ho
              refine wpOp_step rfl (fun K' hK => ?_)
              simp only [FrP]
              go_simp
              refine hK _ _ ⟨fun j => if j = 5 then .slice (some ⟨g, off, none⟩) C.length cc else s j, b11, by simpa using hsz, by simp [FrP], fun h => by rw [getD_set_ne false (by decide)] at h; simpa using c0 h, fun h => by rw [getD_set_ne false (by decide)] at h; simpa using c1 h, fun h => by rw [getD_set_ne false (by decide)] at h; simpa using c2 h, fun h => by rw [getD_set_ne false (by decide)] at h; simpa using c3 h, fun h => by rw [getD_set_ne false (by decide)] at h; simpa using c4 h, fun _ => by simp, fun h => by rw [getD_set_ne false (by decide)] at h; simpa using c6 h, fun h => by rw [getD_set_ne false (by decide)] at h; simpa using c7 h, fun h => by rw [getD_set_ne false (by decide)] at h; simpa using c8 h, fun h => by rw [getD_set_ne false (by decide)] at h; simpa using c9 h, fun h => by rw [getD_set_ne false (by decide)] at h; simpa using c10 h, fun h => by rw [getD_set_ne false (by decide)] at h; simpa using c11 h, fun h => by rw [getD_set_ne false (by decide)] at h; simpa using (c12 h), fun h => by rw [getD_set_ne false (by decide)] at h; simpa using (c13 h), fun h => by rw [getD_set_ne false (by decide)] at h; simpa using i13 h, fun h => by rw [getD_set_ne false (by decide)] at h; exact getD_set_true (n13_0 h), fun h => by rw [getD_set_ne false (by decide)] at h; exact getD_set_true (n13_12 h), fun h => by rw [getD_set_ne false (by decide)] at h; exact ow h, fun h h' => by rw [getD_set_ne false (by decide)] at h h'; exact d11 h h', cbl⟩
            · simp at ho
              subst ho
              refine wpOp_step rfl (fun K' hK => ?_)
              simp only [FrP]
              go_simp
              refine hK _ _ ⟨fun j => if j = 6 then .int .i64 (k : Int) else s j, b11, by simpa using hsz, by simp [FrP], fun h => by rw [getD_set_ne false (by decide)] at h; simpa using c0 h, fun h => by rw [getD_set_ne false (by decide)] at h; simpa using c1 h, fun h => by rw [getD_set_ne false (by decide)] at h; simpa using c2 h, fun h => by rw [getD_set_ne false (by decide)] at h; simpa using c3 h, fun h => by rw [getD_set_ne false (by decide)] at h; simpa using c4 h, fun h => by rw [getD_set_ne false (by decide)] at h; simpa using c5 h, fun _ => by simp, fun h => by rw [getD_set_ne false (by decide)] at h; simpa using c7 h, fun h => by rw [getD_set_ne false (by decide)] at h; simpa using c8 h, fun h => by rw [getD_set_ne false (by decide)] at h; simpa using c9 h, fun h => by rw [getD_set_ne false (by decide)] at h; simpa using c10 h, fun h => by rw [getD_set_ne false (by decide)] at h; simpa using c11 h, fun h => by rw [getD_set_ne false (by decide)] at h; simpa using (c12 h), fun h => by rw [getD_set_ne false (by decide)] at h; simpa using (c13 h), fun h => by rw [getD_set_ne false (by decide)] at h; simpa using i13 h, fun h => by rw [getD_set_ne false (by decide)] at h; exact getD_set_true (n13_0 h), fun h => by rw [getD_set_ne false (by decide)] at h; exact getD_set_true (n13_12 h), fun h => by rw [getD_set_ne false (by decide)] at h; exact ow h, fun h h' => by rw [getD_set_ne false (by decide)] at h h'; exact d11 h h', cbl⟩
            · simp at ho
              subst ho
              have u6 : listed.getD 6 false = true := hall ⟨6, .data⟩ (by simp) rfl
              have e6 := c6 u6
              have hwk : IntKind.i64.wrap ((k : Int) + 1) = (k : Int) + 1 := by rw [IntKind.wrap_i64]; omega
              refine wpOp_step rfl (fun K' hK => ?_)
              simp only [FrP]
              go_simp
              refine hK _ _ ⟨fun j => if j = 7 then .int .i64 ((k : Int) + 1) else s j, b11, by simpa using hsz, by simp [FrP, e6], fun h => by rw [getD_set_ne false (by decide)] at h; simpa using c0 h, fun h => by rw [getD_set_ne false (by decide)] at h; simpa using c1 h, fun h => by rw [getD_set_ne false (by decide)] at h; simpa using c2 h, fun h => by rw [getD_set_ne false (by decide)] at h; simpa using c3 h, fun h => by rw [getD_set_ne false (by decide)] at h; simpa using c4 h, fun h => by rw [getD_set_ne false (by decide)] at h; simpa using c5 h, fun h => by rw [getD_set_ne false (by decide)] at h; simpa using c6 h, fun _ => by simp, fun h => by rw [getD_set_ne false (by decide)] at h; simpa using c8 h, fun h => by rw [getD_set_ne false (by decide)] at h; simpa using c9 h, fun h => by rw [getD_set_ne false (by decide)] at h; simpa using c10 h, fun h => by rw [getD_set_ne false (by decide)] at h; simpa using c11 h, fun h => by rw [getD_set_ne false (by decide)] at h; simpa using (c12 h), fun h => by rw [getD_set_ne false (by decide)] at h; simpa using (c13 h), fun h => by rw [getD_set_ne false (by decide)] at h; simpa using i13 h, fun h => by rw [getD_set_ne false (by decide)] at h; exact getD_set_true (n13_0 h), fun h => by rw [getD_set_ne false (by decide)] at h; exact getD_set_true (n13_12 h), fun h => by rw [getD_set_ne false (by decide)] at h; exact ow h, fun h h' => by rw [getD_set_ne false (by decide)] at h h'; exact d11 h h', cbl⟩
            · simp at ho
              subst ho
              have u5 : listed.getD 5 false = true := hall ⟨5, .data⟩ (by simp) rfl
              have e5 := c5 u5
              have u7 : listed.getD 7 false = true := hall ⟨7, .data⟩ (by simp) rfl
              have e7 := c7 u7
              refine wpOp_step rfl (fun K' hK => ?_)
              simp only [FrP]
              go_simp
              refine hK _ _ ⟨fun j => if j = 8 then .pointer (some ⟨g, off + (k + 1), none⟩) else s j, b11, by simpa using hsz, by simp [FrP, e5, e7, Act.put], fun h => by rw [getD_set_ne false (by decide)] at h; simpa using c0 h, fun h => by rw [getD_set_ne false (by decide)] at h; simpa using c1 h, fun h => by rw [getD_set_ne false (by decide)] at h; simpa using c2 h, fun h => by rw [getD_set_ne false (by decide)] at h; simpa using c3 h, fun h => by rw [getD_set_ne false (by decide)] at h; simpa using c4 h, fun h => by rw [getD_set_ne false (by decide)] at h; simpa using c5 h, fun h => by rw [getD_set_ne false (by decide)] at h; simpa using c6 h, fun h => by rw [getD_set_ne false (by decide)] at h; simpa using c7 h, fun _ => by simp, fun h => by rw [getD_set_ne false (by decide)] at h; simpa using c9 h, fun h => by rw [getD_set_ne false (by decide)] at h; simpa using c10 h, fun h => by rw [getD_set_ne false (by decide)] at h; simpa using c11 h, fun h => by rw [getD_set_ne false (by decide)] at h; simpa using (c12 h), fun h => by rw [getD_set_ne false (by decide)] at h; simpa using (c13 h), fun h => by rw [getD_set_ne false (by decide)] at h; simpa using i13 h, fun h => by rw [getD_set_ne false (by decide)] at h; exact getD_set_true (n13_0 h), fun h => by rw [getD_set_ne false (by decide)] at h; exact getD_set_true (n13_12 h), fun h => by rw [getD_set_ne false (by decide)] at h; exact ow h, fun h h' => by rw [getD_set_ne false (by decide)] at h h'; exact d11 h h', cbl⟩
            · simp at ho
              subst ho
              have u8 : listed.getD 8 false = true := hall ⟨8, .data⟩ (by simp) rfl
              have e8 := c8 u8
              have x0 : w.cell? ⟨g, off + (k + 1), none⟩ = some (.int .i64 y) := by rw [cell_up cbl hg]; exact HE2.out
              have x0' : w.cell? ⟨g, off + k + 1, none⟩ = some (.int .i64 y) := x0
              refine wpOp_step rfl (fun K' hK => ?_)
              simp only [FrP]
              go_simp
              refine hK _ _ ⟨fun j => if j = 9 then .int .i64 y else s j, b11, by simpa using hsz, by simp [FrP, e8], fun h => by rw [getD_set_ne false (by decide)] at h; simpa using c0 h, fun h => by rw [getD_set_ne false (by decide)] at h; simpa using c1 h, fun h => by rw [getD_set_ne false (by decide)] at h; simpa using c2 h, fun h => by rw [getD_set_ne false (by decide)] at h; simpa using c3 h, fun h => by rw [getD_set_ne false (by decide)] at h; simpa using c4 h, fun h => by rw [getD_set_ne false (by decide)] at h; simpa using c5 h, fun h => by rw [getD_set_ne false (by decide)] at h; simpa using c6 h, fun h => by rw [getD_set_ne false (by decide)] at h; simpa using c7 h, fun h => by rw [getD_set_ne false (by decide)] at h; simpa using c8 h, fun _ => by simp, fun h => by rw [getD_set_ne false (by decide)] at h; simpa using c10 h, fun h => by rw [getD_set_ne false (by decide)] at h; simpa using c11 h, fun h => by rw [getD_set_ne false (by decide)] at h; simpa using (c12 h), fun h => by rw [getD_set_ne false (by decide)] at h; simpa using (c13 h), fun h => by rw [getD_set_ne false (by decide)] at h; simpa using i13 h, fun h => by rw [getD_set_ne false (by decide)] at h; exact getD_set_true (n13_0 h), fun h => by rw [getD_set_ne false (by decide)] at h; exact getD_set_true (n13_12 h), fun h => by rw [getD_set_ne false (by decide)] at h; exact ow h, fun h h' => by rw [getD_set_ne false (by decide)] at h h'; exact d11 h h', cbl⟩
            · simp at ho
              subst ho
              have u4 : listed.getD 4 false = true := hall ⟨4, .data⟩ (by simp) rfl
              have e4 := c4 u4
              have u9 : listed.getD 9 false = true := hall ⟨9, .data⟩ (by simp) rfl
              have e9 := c9 u9
              refine wpOp_step rfl (fun K' hK => ?_)
              simp only [FrP]
              go_simp
              refine hK _ _ ⟨fun j => if j = 10 then .agg #[.int .i64 x, .int .i64 y] else s j, b11, by simpa using hsz, by simp [FrP, e4, e9], fun h => by rw [getD_set_ne false (by decide)] at h; simpa using c0 h, fun h => by rw [getD_set_ne false (by decide)] at h; simpa using c1 h, fun h => by rw [getD_set_ne false (by decide)] at h; simpa using c2 h, fun h => by rw [getD_set_ne false (by decide)] at h; simpa using c3 h, fun h => by rw [getD_set_ne false (by decide)] at h; simpa using c4 h, fun h => by rw [getD_set_ne false (by decide)] at h; simpa using c5 h, fun h => by rw [getD_set_ne false (by decide)] at h; simpa using c6 h, fun h => by rw [getD_set_ne false (by decide)] at h; simpa using c7 h, fun h => by rw [getD_set_ne false (by decide)] at h; simpa using c8 h, fun h => by rw [getD_set_ne false (by decide)] at h; simpa using c9 h, fun _ => by simp, fun h => by rw [getD_set_ne false (by decide)] at h; simpa using c11 h, fun h => by rw [getD_set_ne false (by decide)] at h; simpa using (c12 h), fun h => by rw [getD_set_ne false (by decide)] at h; simpa using (c13 h), fun h => by rw [getD_set_ne false (by decide)] at h; simpa using i13 h, fun h => by rw [getD_set_ne false (by decide)] at h; exact getD_set_true (n13_0 h), fun h => by rw [getD_set_ne false (by decide)] at h; exact getD_set_true (n13_12 h), fun h => by rw [getD_set_ne false (by decide)] at h; exact ow h, fun h h' => by rw [getD_set_ne false (by decide)] at h h'; exact d11 h h', cbl⟩
            · simp at ho
              subst ho
              have u10 : listed.getD 10 false = true := hall ⟨10, .data⟩ (by simp) rfl
              have e10 := c10 u10
              refine wpOp_step rfl (fun K' hK => ?_)
              simp only [FrP]
              go_simp
              refine hK _ _ ⟨fun j => if j = 11 then .slice (some ⟨w.heap.size, 0, none⟩) 1 1 else s j, w.heap.size, by simpa using hsz, by simp [FrP, e10], fun h => by rw [getD_set_ne false (by decide)] at h; simpa using c0 h, fun h => by rw [getD_set_ne false (by decide)] at h; simpa using c1 h, fun h => by rw [getD_set_ne false (by decide)] at h; simpa using c2 h, fun h => by rw [getD_set_ne false (by decide)] at h; simpa using c3 h, fun h => by rw [getD_set_ne false (by decide)] at h; simpa using c4 h, fun h => by rw [getD_set_ne false (by decide)] at h; simpa using c5 h, fun h => by rw [getD_set_ne false (by decide)] at h; simpa using c6 h, fun h => by rw [getD_set_ne false (by decide)] at h; simpa using c7 h, fun h => by rw [getD_set_ne false (by decide)] at h; simpa using c8 h, fun h => by rw [getD_set_ne false (by decide)] at h; simpa using c9 h, fun h => by rw [getD_set_ne false (by decide)] at h; simpa using c10 h, fun _ => by simp, fun h => by rw [getD_set_ne false (by decide)] at h; simpa using (c12 h).alloc _, fun h => by rw [getD_set_ne false (by decide)] at h; simpa using (c13 h).alloc _, fun h => by rw [getD_set_ne false (by decide)] at h; simpa using i13 h, fun h => by rw [getD_set_ne false (by decide)] at h; exact getD_set_true (n13_0 h), fun h => by rw [getD_set_ne false (by decide)] at h; exact getD_set_true (n13_12 h), fun h => by rw [getD_set_ne false (by decide)] at h; exact (ow h).alloc _, fun _ _ => heap_alloc_new w _, cbl.alloc cbl.size _⟩
            · simp at ho
              subst ho
              have u0 : listed.getD 0 false = true := hall ⟨0, .data⟩ (by simp) rfl
              have e0 := c0 u0
              have u11 : listed.getD 11 false = true := hall ⟨11, .data⟩ (by simp) rfl
              have e11 := c11 u11
              refine wpOp_step rfl (fun K' hK => ?_)
              have q12 := ow hun'
              have hbb := d11 u11 hun'
              rw [if_pos (by rfl)]
              refine wp_append_own w _ _ 24 rfl w1.heap.size 33 i0 (.agg #[.int .i64 0, .int .i64 0]) 2 16 Try.underlying24 hinf hz0 hz1 hz2 rfl (by decide) (.slice po 0 co) 0 ([] : List Value) (show _ = _ from e0) q12 ⟨b11, 0, none⟩ 1 1 [.int .i64 x, .int .i64 y] (show _ = _ from e11) rfl (cells_two hbb) (by simp [Value.oneCell']) (by unfold maxLen; omega) (by omega) (Nat.le_trans HBS.out cbl.size) ?_
              intro v' w' hown' hgrow _hnn
              refine hK _ _ ⟨fun j => if j = 12 then v' else s j, b11, by simpa using hsz, by simp [FrP, Act.put], fun h => by rw [getD_set_ne false (by decide)] at h; simpa using c0 h, fun h => by rw [getD_set_ne false (by decide)] at h; simpa using c1 h, fun h => by rw [getD_set_ne false (by decide)] at h; simpa using c2 h, fun h => by rw [getD_set_ne false (by decide)] at h; simpa using c3 h, fun h => by rw [getD_set_ne false (by decide)] at h; simpa using c4 h, fun h => by rw [getD_set_ne false (by decide)] at h; simpa using c5 h, fun h => by rw [getD_set_ne false (by decide)] at h; simpa using c6 h, fun h => by rw [getD_set_ne false (by decide)] at h; simpa using c7 h, fun h => by rw [getD_set_ne false (by decide)] at h; simpa using c8 h, fun h => by rw [getD_set_ne false (by decide)] at h; simpa using c9 h, fun h => by rw [getD_set_ne false (by decide)] at h; simpa using c10 h, fun h => by rw [getD_set_ne false (by decide)] at h; simpa using c11 h, fun _ => by simpa using hown', fun h => by rw [getD_set_ne false (by decide)] at h; exact absurd (n13_12 h) (by rw [hun']; simp), fun h => by rw [getD_set_ne false (by decide)] at h; simpa using i13 h, fun h => by rw [getD_set_ne false (by decide)] at h; exact getD_set_true (n13_0 h), fun _ => by simp [hsz], fun h => by simp [hsz] at h, fun _ h => by simp [hsz] at h, cbl.grown hgrow cbl.size (fun k hk => Nat.le_trans HBB.out (q12.lt k hk).1)⟩
            · simp at ho
              subst ho
              have u12 : listed.getD 12 false = true := hall ⟨12, .data⟩ (by simp) rfl
              have e12 := c12 u12
              refine wpOp_step rfl (fun K' hK => ?_)
              simp only [FrP]
              go_simp
              refine hK _ _ ⟨fun j => if j = 13 then s 12 else s j, b11, by simpa using hsz, by simp [FrP], fun h => by rw [getD_set_ne false (by decide)] at h; simpa using c0 h, fun h => by rw [getD_set_ne false (by decide)] at h; simpa using c1 h, fun h => by rw [getD_set_ne false (by decide)] at h; simpa using c2 h, fun h => by rw [getD_set_ne false (by decide)] at h; simpa using c3 h, fun h => by rw [getD_set_ne false (by decide)] at h; simpa using c4 h, fun h => by rw [getD_set_ne false (by decide)] at h; simpa using c5 h, fun h => by rw [getD_set_ne false (by decide)] at h; simpa using c6 h, fun h => by rw [getD_set_ne false (by decide)] at h; simpa using c7 h, fun h => by rw [getD_set_ne false (by decide)] at h; simpa using c8 h, fun h => by rw [getD_set_ne false (by decide)] at h; simpa using c9 h, fun h => by rw [getD_set_ne false (by decide)] at h; simpa using c10 h, fun h => by rw [getD_set_ne false (by decide)] at h; simpa using c11 h, fun h => by rw [getD_set_ne false (by decide)] at h; simpa using (c12 h), fun _ => by simpa using e12, fun h => by simp [hsz] at h, fun _ => by rw [getD_set_ne false (by decide)]; exact hall ⟨0, .phase⟩ (by simp) rfl, fun _ => by rw [getD_set_ne false (by decide)]; exact hall ⟨12, .phase⟩ (by simp) rfl, fun h => by rw [getD_set_ne false (by decide)] at h; exact ow h, fun h h' => by rw [getD_set_ne false (by decide)] at h h'; exact d11 h h', cbl⟩
          case hdone =>
            rintro listed a w ⟨s, b11, hsz, rfl, c0, c1, c2, c3, c4, c5, c6, c7, c8, c9, c10, c11, c12, c13, i13, n13_0, n13_12, ow, d11, cbl⟩ hr
            have hup := fun j => all_done (md := .any) (by kernel_rfl) hsz hr j
            have L13 := c13 (hup 13 (by decide))
            clear i13 n13_0 n13_12 ow c0 c1 c2 c3 c4 c5 c6 c7 c8 c9 c10 c11 c12 c13 d11 hup hr
            simp only [FrP]
            obtain ⟨pn, cn, e13⟩ := own_open L13
            rw [e13] at L13 ⊢
            have HL13 := Lib.hid L13; have HBZ := Lib.hid cbl
            have HPN2 : Hid (pcs P none C = [] ++ pcs P (some (x, y)) (C.drop (k + 1))) := Lib.hid (by rw [HPN.out, pcs_two, if_pos HPT.out, HD2.out])
            clear L13 cbl e13
            go_wp2_with fail
            go_roundw
            case rel => exact ⟨k + 1, some (x, y), [], by omega, by go_num, Lib.hid (by simpa [cells2] using HL13.out), (fun h => by cases h), by simp, HPN2, HBZ⟩
            case measure => simp [intOf]; omega
        · obtain ⟨n, hn⟩ : ∃ n, ini.length = n := ⟨_, rfl⟩
          have hmn : m = n + 1 := by rw [← HM.out]; simp [hn]
          subst hmn
          have HN := Lib.hid hn
          have HM2 := HM.out
          obtain ⟨xs, hxs⟩ : ∃ xs, cells2 (ini ++ (some (sq, e)).toList) = xs := ⟨_, rfl⟩
          have HXS := Lib.hid hxs
          have hat := cells2_at (ini ++ (some (sq, e)).toList) n (by rw [HM2]; omega)
          have hlast : (ini ++ (some (sq, e)).toList)[n]'(by rw [HM2]; omega) = (sq, e) := by
            subst hn; simp
          rw [hlast, hxs] at hat
          rw [hxs] at HO3
          have hown := HO3.out
          rcases hown.2 with ⟨hnil, h0⟩ | ⟨g2, cap2, cur2, hv, hg2, hgh2, -⟩
          · omega
          cases hv
          have cE : wc.cell? ⟨g2, n * 2 + 1, none⟩ = some (.int .i64 e) := by rw [hown.cellAt (n * 2 + 1) (by omega)]; exact hat.2
          have zE : wc.frozen? ⟨g2, n * 2 + 1, none⟩ = false := hown.frozenAt _
          have HCE := Lib.hid cE
          clear hn hxs hat hlast hown hgh2 HM2
          by_cases hex : e = x
          · subst hex
            have hexb : (e == e) = true := by simp
            go_wp2_with fail
            go_quiet (fail)
            go_wp2_with fail
            go_roundw
            case rel =>
              refine ⟨k + 1, some (sq, y), ini, by omega, by go_num, Lib.hid ?_, (fun h => by cases h), by simp [HN.out]; omega, Lib.hid ?_, Lib.hid ((below_drewN HB3.out nq).setCell (p := ⟨g2, n * 2 + 1, none⟩) hg2 _)⟩
              · have h1 : (wc.drewN nq).ownsRow w1.heap.size 33 2 (.slice (some ⟨g2, 0, none⟩) (n + 1) co) (n + 1) xs := HO3.out
                have h2 := (h1.stored (n * 2 + 1) (.int .i64 y)).1
                have e1 : (ini ++ (some (sq, y)).toList).length = n + 1 := by simp [HN.out]
                have e2 : cells2 (ini ++ (some (sq, y)).toList) = xs.set (n * 2 + 1) (.int .i64 y) := by
                  rw [← HXS.out, ← HN.out]
                  exact (cells2_set ini sq e y).symm
                rw [e1, e2]
                exact h2
              · rw [HPN.out, pcs_two, if_pos HPT.out]
                show ini ++ (if e = e then _ else _) = _
                rw [if_pos rfl, HD2.out]
            case measure => simp [intOf]; omega
          · have hexb : (e == x) = false := by simpa using hex
            go_wp2_with fail
            go_quiet (fail)
            go_wp2_with fail
            obtain ⟨wq, hwq⟩ : ∃ wq, wc.drewN nq = wq := ⟨_, rfl⟩
            have HBW := Lib.hid (show Below w1.heap.size w1 wq from by rw [← hwq]; exact below_drewN HB3.out nq)
            have HOWNP : Hid (wq.ownsRow w1.heap.size 33 2 (.slice (some ⟨g2, 0, none⟩) (n + 1) co) (n + 1) xs) := Lib.hid (by rw [← hwq]; exact HO3.out)
            have HBB := Lib.hid (Nat.le_refl w1.heap.size)
            have HBS := Lib.hid (Nat.le_refl w1.heap.size)
            rw [hwq]
            clear hwq c1 c2 c2' cE zE
            refine wp_region_inv (InP w1.heap.size (n + 1) co g off C.length cc k x y (some ⟨g2, 0, none⟩) xs (Value.slice pa la.length ca) (Value.slice pb lb.length cb) (Value.int IntKind.i64 kd) undef undef undef (Value.slice none 0 0) (Value.bool p) (Value.bool q) (Value.bool true) (Value.int IntKind.i64 ((n : Int) + 1)) (Value.slice pa la.length ca) (Value.slice pb lb.length cb) (Value.slice (some { block := g, off := off }) C.length cc) (u17) (u18) (u19) (u20) (u21) (u22) (u23) (u24) (u25) (u26) (u27) (u28) (u29) (u30) (u31) (u32) (u33) (u34) (u35) (u36) (u37) (u38) (u39) (u40) (u41) (u42) (u43) (u44) (u45) (u46) (u47) (u48) (u49) (u50) (u51) (u52) (u53) (u54) (u55) (u56) (u57) (u58) (u59) (u60) (u61) (u62) (u63) (u64) (Value.bool true) (Value.bool false) (Value.slice (some { block := g2, off := 0 }) (n + 1) co) (Value.int IntKind.i64 ((n : Int) + 1)) (Value.int IntKind.i64 ((n : Int) + 1)) (Value.bool true) (Value.bool true) (Value.slice (some { block := g2, off := 0 }) (n + 1) co) (Value.int IntKind.i64 ((n : Int) + 1)) (Value.int IntKind.i64 (n : Int)) (Value.pointer (some { block := g2, off := n * 2 })) (Value.pointer (some { block := g2, off := n * 2 + 1 })) (Value.int IntKind.i64 e) (Value.slice (some { block := g, off := off }) C.length cc) (Value.int IntKind.i64 (k : Int)) (Value.pointer (some { block := g, off := off + k })) (Value.int IntKind.i64 x) (Value.bool false) (Value.bool false) (u84) (u85) (u86) (u87) (u88) (u89) (u90) (u91) (u92) (u93) undef w1) (by kernel_rfl) ?h0 ?hstep ?hdone
            case h0 => exact ⟨fun j => if j = 0 then u94 else if j = 1 then u95 else if j = 2 then u96 else if j = 3 then u97 else if j = 4 then u98 else if j = 5 then u99 else if j = 6 then u100 else if j = 7 then u101 else if j = 8 then u102 else if j = 9 then u103 else if j = 10 then u104 else if j = 11 then u105 else if j = 12 then u106 else .slice (some ⟨g2, 0, none⟩) (n + 1) co, 0, rfl, rfl, (fun h => absurd h (by simp)), (fun h => absurd h (by simp)), (fun h => absurd h (by simp)), (fun h => absurd h (by simp)), (fun h => absurd h (by simp)), (fun h => absurd h (by simp)), (fun h => absurd h (by simp)), (fun h => absurd h (by simp)), (fun h => absurd h (by simp)), (fun h => absurd h (by simp)), (fun h => absurd h (by simp)), (fun h => absurd h (by simp)), (fun h => absurd h (by simp)), (fun h => absurd h (by simp)), (fun _ => rfl), (fun h => absurd h (by simp)), (fun h => absurd h (by simp)), (fun _ => HOWNP.out), (fun h => absurd h (by simp)), HBW.out.drew⟩
            case hstep =>
              rintro listed a w ⟨s, b11, hsz, rfl, c0, c1, c2, c3, c4, c5, c6, c7, c8, c9, c10, c11, c12, c13, i13, n13_0, n13_12, ow, d11, cbl⟩ i o ho hun hall
              have hun' : listed.getD i false = false := getD_none hun
              have hi : i < 14 := (Array.getElem?_eq_some_iff.1 ho).1
              have hii : i = 0 ∨ i = 1 ∨ i = 2 ∨ i = 3 ∨ i = 4 ∨ i = 5 ∨ i = 6 ∨ i = 7 ∨ i = 8 ∨ i = 9 ∨ i = 10 ∨ i = 11 ∨ i = 12 ∨ i = 13 := by omega
              rcases hii with rfl | rfl | rfl | rfl | rfl | rfl | rfl | rfl | rfl | rfl | rfl | rfl | rfl | rfl
              · simp at ho
                subst ho
                have q13 : listed.getD 13 false = false := by
                  cases hq : listed.getD 13 false
                  · rfl
                  · exact absurd (n13_0 hq) (by rw [hun']; simp)
                have w13 := i13 q13
                refine wpOp_step rfl (fun K' hK => ?_)
                simp only [FrP]
                go_simp
                refine hK _ _ ⟨fun j => if j = 0 then .slice (some ⟨g2, 0, none⟩) (n + 1) co else s j, b11, by simpa using hsz, by simp [FrP, w13], fun _ => by simp, fun h => by rw [getD_set_ne false (by decide)] at h; simpa using c1 h, fun h => by rw [getD_set_ne false (by decide)] at h; simpa using c2 h, fun h => by rw [getD_set_ne false (by decide)] at h; simpa using c3 h, fun h => by rw [getD_set_ne false (by decide)] at h; simpa using c4 h, fun h => by rw [getD_set_ne false (by decide)] at h; simpa using c5 h, fun h => by rw [getD_set_ne false (by decide)] at h; simpa using c6 h, fun h => by rw [getD_set_ne false (by decide)] at h; simpa using c7 h, fun h => by rw [getD_set_ne false (by decide)] at h; simpa using c8 h, fun h => by rw [getD_set_ne false (by decide)] at h; simpa using c9 h, fun h => by rw [getD_set_ne false (by decide)] at h; simpa using c10 h, fun h => by rw [getD_set_ne false (by decide)] at h; simpa using c11 h, fun h => by rw [getD_set_ne false (by decide)] at h; simpa using (c12 h), fun h => by rw [getD_set_ne false (by decide)] at h; simpa using (c13 h), fun h => by rw [getD_set_ne false (by decide)] at h; simpa using i13 h, fun _ => by simp [hsz], fun h => by rw [getD_set_ne false (by decide)] at h; exact getD_set_true (n13_12 h), fun h => by rw [getD_set_ne false (by decide)] at h; exact ow h, fun h h' => by rw [getD_set_ne false (by decide)] at h h'; exact d11 h h', cbl⟩
              · simp at ho
                subst ho
                refine wpOp_step rfl (fun K' hK => ?_)
                simp only [FrP]
                go_simp
                refine hK _ _ ⟨fun j => if j = 1 then .slice (some ⟨g, off, none⟩) C.length cc else s j, b11, by simpa using hsz, by simp [FrP], fun h => by rw [getD_set_ne false (by decide)] at h; simpa using c0 h, fun _ => by simp, fun h => by rw [getD_set_ne false (by decide)] at h; simpa using c2 h, fun h => by rw [getD_set_ne false (by decide)] at h; simpa using c3 h, fun h => by rw [getD_set_ne false (by decide)] at h; simpa using c4 h, fun h => by rw [getD_set_ne false (by decide)] at h; simpa using c5 h, fun h => by rw [getD_set_ne false (by decide)] at h; simpa using c6 h, fun h => by rw [getD_set_ne false (by decide)] at h; simpa using c7 h, fun h => by rw [getD_set_ne false (by decide)] at h; simpa using c8 h, fun h => by rw [getD_set_ne false (by decide)] at h; simpa using c9 h, fun h => by rw [getD_set_ne false (by decide)] at h; simpa using c10 h, fun h => by rw [getD_set_ne false (by decide)] at h; simpa using c11 h, fun h => by rw [getD_set_ne false (by decide)] at h; simpa using (c12 h), fun h => by rw [getD_set_ne false (by decide)] at h; simpa using (c13 h), fun h => by rw [getD_set_ne false (by decide)] at h; simpa using i13 h, fun h => by rw [getD_set_ne false (by decide)] at h; exact getD_set_true (n13_0 h), fun h => by rw [getD_set_ne false (by decide)] at h; exact getD_set_true (n13_12 h), fun h => by rw [getD_set_ne false (by decide)] at h; exact ow h, fun h h' => by rw [getD_set_ne false (by decide)] at h h'; exact d11 h h', cbl⟩
              · simp at ho
                subst ho
                refine wpOp_step rfl (fun K' hK => ?_)
                simp only [FrP]
                go_simp
                refine hK _ _ ⟨fun j => if j = 2 then .int .i64 (k : Int) else s j, b11, by simpa using hsz, by simp [FrP], fun h => by rw [getD_set_ne false (by decide)] at h; simpa using c0 h, fun h => by rw [getD_set_ne false (by decide)] at h; simpa using c1 h, fun _ => by simp, fun h => by rw [getD_set_ne false (by decide)] at h; simpa using c3 h, fun h => by rw [getD_set_ne false (by decide)] at h; simpa using c4 h, fun h => by rw [getD_set_ne false (by decide)] at h; simpa using c5 h, fun h => by rw [getD_set_ne false (by decide)] at h; simpa using c6 h, fun h => by rw [getD_set_ne false (by decide)] at h; simpa using c7 h, fun h => by rw [getD_set_ne false (by decide)] at h; simpa using c8 h, fun h => by rw [getD_set_ne false (by decide)] at h; simpa using c9 h, fun h => by rw [getD_set_ne false (by decide)] at h; simpa using c10 h, fun h => by rw [getD_set_ne false (by decide)] at h; simpa using c11 h, fun h => by rw [getD_set_ne false (by decide)] at h; simpa using (c12 h), fun h => by rw [getD_set_ne false (by decide)] at h; simpa using (c13 h), fun h => by rw [getD_set_ne false (by decide)] at h; simpa using i13 h, fun h => by rw [getD_set_ne false (by decide)] at h; exact getD_set_true (n13_0 h), fun h => by rw [getD_set_ne false (by decide)] at h; exact getD_set_true (n13_12 h), fun h => by rw [getD_set_ne false (by decide)] at h; exact ow h, fun h h' => by rw [getD_set_ne false (by decide)] at h h'; exact d11 h h', cbl⟩
              · simp at ho
                subst ho
                have u1 : listed.getD 1 false = true := hall ⟨1, .data⟩ (by simp) rfl
                have e1 := c1 u1
                have u2 : listed.getD 2 false = true := hall ⟨2, .data⟩ (by simp) rfl
                have e2 := c2 u2
                refine wpOp_step rfl (fun K' hK => ?_)
                simp only [FrP]
                go_simp
                refine hK _ _ ⟨fun j => if j = 3 then .pointer (some ⟨g, off + k, none⟩) else s j, b11, by simpa using hsz, by simp [FrP, e1, e2], fun h => by rw [getD_set_ne false (by decide)] at h; simpa using c0 h, fun h => by rw [getD_set_ne false (by decide)] at h; simpa using c1 h, fun h => by rw [getD_set_ne false (by decide)] at h; simpa using c2 h, fun _ => by simp, fun h => by rw [getD_set_ne false (by decide)] at h; simpa using c4 h, fun h => by rw [getD_set_ne false (by decide)] at h; simpa using c5 h, fun h => by rw [getD_set_ne false (by decide)] at h; simpa using c6 h, fun h => by rw [getD_set_ne false (by decide)] at h; simpa using c7 h, fun h => by rw [getD_set_ne false (by decide)] at h; simpa using c8 h, fun h => by rw [getD_set_ne false (by decide)] at h; simpa using c9 h, fun h => by rw [getD_set_ne false (by decide)] at h; simpa using c10 h, fun h => by rw [getD_set_ne false (by decide)] at h; simpa using c11 h, fun h => by rw [getD_set_ne false (by decide)] at h; simpa using (c12 h), fun h => by rw [getD_set_ne false (by decide)] at h; simpa using (c13 h), fun h => by rw [getD_set_ne false (by decide)] at h; simpa using i13 h, fun h => by rw [getD_set_ne false (by decide)] at h; exact getD_set_true (n13_0 h), fun h => by rw [getD_set_ne false (by decide)] at h; exact getD_set_true (n13_12 h), fun h => by rw [getD_set_ne false (by decide)] at h; exact ow h, fun h h' => by rw [getD_set_ne false (by decide)] at h h'; exact d11 h h', cbl⟩
              · simp at ho
                subst ho
                have u3 : listed.getD 3 false = true := hall ⟨3, .data⟩ (by simp) rfl
                have e3 := c3 u3
                have x0 : w.cell? ⟨g, off + k, none⟩ = some (.int .i64 x) := by rw [cell_up cbl hg]; exact HE1.out
                refine wpOp_step rfl (fun K' hK => ?_)
                simp only [FrP]
                go_simp
                refine hK _ _ ⟨fun j => if j = 4 then .int .i64 x else s j, b11, by simpa using hsz, by simp [FrP, e3], fun h => by rw [getD_set_ne false (by decide)] at h; simpa using c0 h, fun h => by rw [getD_set_ne false (by decide)] at h; simpa using c1 h, fun h => by rw [getD_set_ne false (by decide)] at h; simpa using c2 h, fun h => by rw [getD_set_ne false (by decide)] at h; simpa using c3 h, fun _ => by simp, fun h => by rw [getD_set_ne false (by decide)] at h; simpa using c5 h, fun h => by rw [getD_set_ne false (by decide)] at h; simpa using c6 h, fun h => by rw [getD_set_ne false (by decide)] at h; simpa using c7 h, fun h => by rw [getD_set_ne false (by decide)] at h; simpa using c8 h, fun h => by rw [getD_set_ne false (by decide)] at h; simpa using c9 h, fun h => by rw [getD_set_ne false (by decide)] at h; simpa using c10 h, fun h => by rw [getD_set_ne false (by decide)] at h; simpa using c11 h, fun h => by rw [getD_set_ne false (by decide)] at h; simpa using (c12 h), fun h => by rw [getD_set_ne false (by decide)] at h; simpa using (c13 h), fun h => by rw [getD_set_ne false (by decide)] at h; simpa using i13 h, fun h => by rw [getD_set_ne false (by decide)] at h; exact getD_set_true (n13_0 h), fun h => by rw [getD_set_ne false (by decide)] at h; exact getD_set_true (n13_12 h), fun h => by rw [getD_set_ne false (by decide)] at h; exact ow h, fun h h' => by rw [getD_set_ne false (by decide)] at h h'; exact d11 h h', cbl⟩
              · simp at ho
                subst ho
                refine wpOp_step rfl (fun K' hK => ?_)
                simp only [FrP]
                go_simp
                refine hK _ _ ⟨fun j => if j = 5 then .slice (some ⟨g, off, none⟩) C.length cc else s j, b11, by simpa using hsz, by simp [FrP], fun h => by rw [getD_set_ne false (by decide)] at h; simpa using c0 h, fun h => by rw [getD_set_ne false (by decide)] at h; simpa using c1 h, fun h => by rw [getD_set_ne false (by decide)] at h; simpa using c2 h, fun h => by rw [getD_set_ne false (by decide)] at h; simpa using c3 h, fun h => by rw [getD_set_ne false (by decide)] at h; simpa using c4 h, fun _ => by simp, fun h => by rw [getD_set_ne false (by decide)] at h; simpa using c6 h, fun h => by rw [getD_set_ne false (by decide)] at h; simpa using c7 h, fun h => by rw [getD_set_ne false (by decide)] at h; simpa using c8 h, fun h => by rw [getD_set_ne false (by decide)] at h; simpa using c9 h, fun h => by rw [getD_set_ne false (by decide)] at h; simpa using c10 h, fun h => by rw [getD_set_ne false (by decide)] at h; simpa using c11 h, fun h => by rw [getD_set_ne false (by decide)] at h; simpa using (c12 h), fun h => by rw [getD_set_ne false (by decide)] at h; simpa using (c13 h), fun h => by rw [getD_set_ne false (by decide)] at h; simpa using i13 h, fun h => by rw [getD_set_ne false (by decide)] at h; exact getD_set_true (n13_0 h), fun h => by rw [getD_set_ne false (by decide)] at h; exact getD_set_true (n13_12 h), fun h => by rw [getD_set_ne false (by decide)] at h; exact ow h, fun h h' => by rw [getD_set_ne false (by decide)] at h h'; exact d11 h h', cbl⟩
              · simp at ho
                subst ho
                refine wpOp_step rfl (fun K' hK => ?_)
                simp only [FrP]
                go_simp
                refine hK _ _ ⟨fun j => if j = 6 then .int .i64 (k : Int) else s j, b11, by simpa using hsz, by simp [FrP], fun h => by rw [getD_set_ne false (by decide)] at h; simpa using c0 h, fun h => by rw [getD_set_ne false (by decide)] at h; simpa using c1 h, fun h => by rw [getD_set_ne false (by decide)] at h; simpa using c2 h, fun h => by rw [getD_set_ne false (by decide)] at h; simpa using c3 h, fun h => by rw [getD_set_ne false (by decide)] at h; simpa using c4 h, fun h => by rw [getD_set_ne false (by decide)] at h; simpa using c5 h, fun _ => by simp, fun h => by rw [getD_set_ne false (by decide)] at h; simpa using c7 h, fun h => by rw [getD_set_ne false (by decide)] at h; simpa using c8 h, fun h => by rw [getD_set_ne false (by decide)] at h; simpa using c9 h, fun h => by rw [getD_set_ne false (by decide)] at h; simpa using c10 h, fun h => by rw [getD_set_ne false (by decide)] at h; simpa using c11 h, fun h => by rw [getD_set_ne false (by decide)] at h; simpa using (c12 h), fun h => by rw [getD_set_ne false (by decide)] at h; simpa using (c13 h), fun h => by rw [getD_set_ne false (by decide)] at h; simpa using i13 h, fun h => by rw [getD_set_ne false (by decide)] at h; exact getD_set_true (n13_0 h), fun h => by rw [getD_set_ne false (by decide)] at h; exact getD_set_true (n13_12 h), fun h => by rw [getD_set_ne false (by decide)] at h; exact ow h, fun h h' => by rw [getD_set_ne false (by decide)] at h h'; exact d11 h h', cbl⟩
              · simp at ho
                subst ho
                have u6 : listed.getD 6 false = true := hall ⟨6, .data⟩ (by simp) rfl
                have e6 := c6 u6
                have hwk : IntKind.i64.wrap ((k : Int) + 1) = (k : Int) + 1 := by rw [IntKind.wrap_i64]; omega
                refine wpOp_step rfl (fun K' hK => ?_)
                simp only [FrP]
                go_simp
                refine hK _ _ ⟨fun j => if j = 7 then .int .i64 ((k : Int) + 1) else s j, b11, by simpa using hsz, by simp [FrP, e6], fun h => by rw [getD_set_ne false (by decide)] at h; simpa using c0 h, fun h => by rw [getD_set_ne false (by decide)] at h; simpa using c1 h, fun h => by rw [getD_set_ne false (by decide)] at h; simpa using c2 h, fun h => by rw [getD_set_ne false (by decide)] at h; simpa using c3 h, fun h => by rw [getD_set_ne false (by decide)] at h; simpa using c4 h, fun h => by rw [getD_set_ne false (by decide)] at h; simpa using c5 h, fun h => by rw [getD_set_ne false (by decide)] at h; simpa using c6 h, fun _ => by simp, fun h => by rw [getD_set_ne false (by decide)] at h; simpa using c8 h, fun h => by rw [getD_set_ne false (by decide)] at h; simpa using c9 h, fun h => by rw [getD_set_ne false (by decide)] at h; simpa using c10 h, fun h => by rw [getD_set_ne false (by decide)] at h; simpa using c11 h, fun h => by rw [getD_set_ne false (by decide)] at h; simpa using (c12 h), fun h => by rw [getD_set_ne false (by decide)] at h; simpa using (c13 h), fun h => by rw [getD_set_ne false (by decide)] at h; simpa using i13 h, fun h => by rw [getD_set_ne false (by decide)] at h; exact getD_set_true (n13_0 h), fun h => by rw [getD_set_ne false (by decide)] at h; exact getD_set_true (n13_12 h), fun h => by rw [getD_set_ne false (by decide)] at h; exact ow h, fun h h' => by rw [getD_set_ne false (by decide)] at h h'; exact d11 h h', cbl⟩
              · simp at ho
                subst ho
                have u5 : listed.getD 5 false = true := hall ⟨5, .data⟩ (by simp) rfl
                have e5 := c5 u5
                have u7 : listed.getD 7 false = true := hall ⟨7, .data⟩ (by simp) rfl
                have e7 := c7 u7
                refine wpOp_step rfl (fun K' hK => ?_)
                simp only [FrP]
                go_simp
                refine hK _ _ ⟨fun j => if j = 8 then .pointer (some ⟨g, off + (k + 1), none⟩) else s j, b11, by simpa using hsz, by simp [FrP, e5, e7, Act.put], fun h => by rw [getD_set_ne false (by decide)] at h; simpa using c0 h, fun h => by rw [getD_set_ne false (by decide)] at h; simpa using c1 h, fun h => by rw [getD_set_ne false (by decide)] at h; simpa using c2 h, fun h => by rw [getD_set_ne false (by decide)] at h; simpa using c3 h, fun h => by rw [getD_set_ne false (by decide)] at h; simpa using c4 h, fun h => by rw [getD_set_ne false (by decide)] at h; simpa using c5 h, fun h => by rw [getD_set_ne false (by decide)] at h; simpa using c6 h, fun h => by rw [getD_set_ne false (by decide)] at h; simpa using c7 h, fun _ => by simp, fun h => by rw [getD_set_ne false (by decide)] at h; simpa using c9 h, fun h => by rw [getD_set_ne false (by decide)] at h; simpa using c10 h, fun h => by rw [getD_set_ne false (by decide)] at h; simpa using c11 h, fun h => by rw [getD_set_ne false (by decide)] at h; simpa using (c12 h), fun h => by rw [getD_set_ne false (by decide)] at h; simpa using (c13 h), fun h => by rw [getD_set_ne false (by decide)] at h; simpa using i13 h, fun h => by rw [getD_set_ne false (by decide)] at h; exact getD_set_true (n13_0 h), fun h => by rw [getD_set_ne false (by decide)] at h; exact getD_set_true (n13_12 h), fun h => by rw [getD_set_ne false (by decide)] at h; exact ow h, fun h h' => by rw [getD_set_ne false (by decide)] at h h'; exact d11 h h', cbl⟩
              · simp at ho
                subst ho
                have u8 : listed.getD 8 false = true := hall ⟨8, .data⟩ (by simp) rfl
                have e8 := c8 u8
                have x0 : w.cell? ⟨g, off + (k + 1), none⟩ = some (.int .i64 y) := by rw [cell_up cbl hg]; exact HE2.out
                have x0' : w.cell? ⟨g, off + k + 1, none⟩ = some (.int .i64 y) := x0
                refine wpOp_step rfl (fun K' hK => ?_)
                simp only [FrP]
                go_simp
                refine hK _ _ ⟨fun j => if j = 9 then .int .i64 y else s j, b11, by simpa using hsz, by simp [FrP, e8], fun h => by rw [getD_set_ne false (by decide)] at h; simpa using c0 h, fun h => by rw [getD_set_ne false (by decide)] at h; simpa using c1 h, fun h => by rw [getD_set_ne false (by decide)] at h; simpa using c2 h, fun h => by rw [getD_set_ne false (by decide)] at h; simpa using c3 h, fun h => by rw [getD_set_ne false (by decide)] at h; simpa using c4 h, fun h => by rw [getD_set_ne false (by decide)] at h; simpa using c5 h, fun h => by rw [getD_set_ne false (by decide)] at h; simpa using c6 h, fun h => by rw [getD_set_ne false (by decide)] at h; simpa using c7 h, fun h => by rw [getD_set_ne false (by decide)] at h; simpa using c8 h, fun _ => by simp, fun h => by rw [getD_set_ne false (by decide)] at h; simpa using c10 h, fun h => by rw [getD_set_ne false (by decide)] at h; simpa using c11 h, fun h => by rw [getD_set_ne false (by decide)] at h; simpa using (c12 h), fun h => by rw [getD_set_ne false (by decide)] at h; simpa using (c13 h), fun h => by rw [getD_set_ne false (by decide)] at h; simpa using i13 h, fun h => by rw [getD_set_ne false (by decide)] at h; exact getD_set_true (n13_0 h), fun h => by rw [getD_set_ne false (by decide)] at h; exact getD_set_true (n13_12 h), fun h => by rw [getD_set_ne false (by decide)] at h; exact ow h, fun h h' => by rw [getD_set_ne false (by decide)] at h h'; exact d11 h h', cbl⟩
              · simp at ho
                subst ho
                have u4 : listed.getD 4 false = true := hall ⟨4, .data⟩ (by simp) rfl
                have e4 := c4 u4
                have u9 : listed.getD 9 false = true := hall ⟨9, .data⟩ (by simp) rfl
                have e9 := c9 u9
                refine wpOp_step rfl (fun K' hK => ?_)
                simp only [FrP]
                go_simp
                refine hK _ _ ⟨fun j => if j = 10 then .agg #[.int .i64 x, .int .i64 y] else s j, b11, by simpa using hsz, by simp [FrP, e4, e9], fun h => by rw [getD_set_ne false (by decide)] at h; simpa using c0 h, fun h => by rw [getD_set_ne false (by decide)] at h; simpa using c1 h, fun h => by rw [getD_set_ne false (by decide)] at h; simpa using c2 h, fun h => by rw [getD_set_ne false (by decide)] at h; simpa using c3 h, fun h => by rw [getD_set_ne false (by decide)] at h; simpa using c4 h, fun h => by rw [getD_set_ne false (by decide)] at h; simpa using c5 h, fun h => by rw [getD_set_ne false (by decide)] at h; simpa using c6 h, fun h => by rw [getD_set_ne false (by decide)] at h; simpa using c7 h, fun h => by rw [getD_set_ne false (by decide)] at h; simpa using c8 h, fun h => by rw [getD_set_ne false (by decide)] at h; simpa using c9 h, fun _ => by simp, fun h => by rw [getD_set_ne false (by decide)] at h; simpa using c11 h, fun h => by rw [getD_set_ne false (by decide)] at h; simpa using (c12 h), fun h => by rw [getD_set_ne false (by decide)] at h; simpa using (c13 h), fun h => by rw [getD_set_ne false (by decide)] at h; simpa using i13 h, fun h => by rw [getD_set_ne false (by decide)] at h; exact getD_set_true (n13_0 h), fun h => by rw [getD_set_ne false (by decide)] at h; exact getD_set_true (n13_12 h), fun h => by rw [getD_set_ne false (by decide)] at h; exact ow h, fun h h' => by rw [getD_set_ne false (by decide)] at h h'; exact d11 h h', cbl⟩
              · simp at ho
                subst ho
                have u10 : listed.getD 10 false = true := hall ⟨10, .data⟩ (by simp) rfl
                have e10 := c10 u10
                refine wpOp_step rfl (fun K' hK => ?_)
                simp only [FrP]
                go_simp
                refine hK _ _ ⟨fun j => if j = 11 then .slice (some ⟨w.heap.size, 0, none⟩) 1 1 else s j, w.heap.size, by simpa using hsz, by simp [FrP, e10], fun h => by rw [getD_set_ne false (by decide)] at h; simpa using c0 h, fun h => by rw [getD_set_ne false (by decide)] at h; simpa using c1 h, fun h => by rw [getD_set_ne false (by decide)] at h; simpa using c2 h, fun h => by rw [getD_set_ne false (by decide)] at h; simpa using c3 h, fun h => by rw [getD_set_ne false (by decide)] at h; simpa using c4 h, fun h => by rw [getD_set_ne false (by decide)] at h; simpa using c5 h, fun h => by rw [getD_set_ne false (by decide)] at h; simpa using c6 h, fun h => by rw [getD_set_ne false (by decide)] at h; simpa using c7 h, fun h => by rw [getD_set_ne false (by decide)] at h; simpa using c8 h, fun h => by rw [getD_set_ne false (by decide)] at h; simpa using c9 h, fun h => by rw [getD_set_ne false (by decide)] at h; simpa using c10 h, fun _ => by simp, fun h => by rw [getD_set_ne false (by decide)] at h; simpa using (c12 h).alloc _, fun h => by rw [getD_set_ne false (by decide)] at h; simpa using (c13 h).alloc _, fun h => by rw [getD_set_ne false (by decide)] at h; simpa using i13 h, fun h => by rw [getD_set_ne false (by decide)] at h; exact getD_set_true (n13_0 h), fun h => by rw [getD_set_ne false (by decide)] at h; exact getD_set_true (n13_12 h), fun h => by rw [getD_set_ne false (by decide)] at h; exact (ow h).alloc _, fun _ _ => heap_alloc_new w _, cbl.alloc cbl.size _⟩
              · simp at ho
                subst ho
                have u0 : listed.getD 0 false = true := hall ⟨0, .data⟩ (by simp) rfl
                have e0 := c0 u0
                have u11 : listed.getD 11 false = true := hall ⟨11, .data⟩ (by simp) rfl
                have e11 := c11 u11
                refine wpOp_step rfl (fun K' hK => ?_)
                have q12 := ow hun'
                have hbb := d11 u11 hun'
                rw [if_pos (by rfl)]
                refine wp_append_own w _ _ 24 rfl w1.heap.size 33 i0 (.agg #[.int .i64 0, .int .i64 0]) 2 16 Try.underlying24 hinf hz0 hz1 hz2 rfl (by decide) (.slice (some ⟨g2, 0, none⟩) (n + 1) co) (n + 1) xs (show _ = _ from e0) q12 ⟨b11, 0, none⟩ 1 1 [.int .i64 x, .int .i64 y] (show _ = _ from e11) rfl (cells_two hbb) (by simp [Value.oneCell']) (by unfold maxLen; omega) (by omega) (Nat.le_trans HBS.out cbl.size) ?_
                intro v' w' hown' hgrow _hnn
                refine hK _ _ ⟨fun j => if j = 12 then v' else s j, b11, by simpa using hsz, by simp [FrP, Act.put], fun h => by rw [getD_set_ne false (by decide)] at h; simpa using c0 h, fun h => by rw [getD_set_ne false (by decide)] at h; simpa using c1 h, fun h => by rw [getD_set_ne false (by decide)] at h; simpa using c2 h, fun h => by rw [getD_set_ne false (by decide)] at h; simpa using c3 h, fun h => by rw [getD_set_ne false (by decide)] at h; simpa using c4 h, fun h => by rw [getD_set_ne false (by decide)] at h; simpa using c5 h, fun h => by rw [getD_set_ne false (by decide)] at h; simpa using c6 h, fun h => by rw [getD_set_ne false (by decide)] at h; simpa using c7 h, fun h => by rw [getD_set_ne false (by decide)] at h; simpa using c8 h, fun h => by rw [getD_set_ne false (by decide)] at h; simpa using c9 h, fun h => by rw [getD_set_ne false (by decide)] at h; simpa using c10 h, fun h => by rw [getD_set_ne false (by decide)] at h; simpa using c11 h, fun _ => by simpa using hown', fun h => by rw [getD_set_ne false (by decide)] at h; exact absurd (n13_12 h) (by rw [hun']; simp), fun h => by rw [getD_set_ne false (by decide)] at h; simpa using i13 h, fun h => by rw [getD_set_ne false (by decide)] at h; exact getD_set_true (n13_0 h), fun _ => by simp [hsz], fun h => by simp [hsz] at h, fun _ h => by simp [hsz] at h, cbl.grown hgrow cbl.size (fun k hk => Nat.le_trans HBB.out (q12.lt k hk).1)⟩
              · simp at ho
                subst ho
                have u12 : listed.getD 12 false = true := hall ⟨12, .data⟩ (by simp) rfl
                have e12 := c12 u12
                refine wpOp_step rfl (fun K' hK => ?_)
                simp only [FrP]
                go_simp
                refine hK _ _ ⟨fun j => if j = 13 then s 12 else s j, b11, by simpa using hsz, by simp [FrP], fun h => by rw [getD_set_ne false (by decide)] at h; simpa using c0 h, fun h => by rw [getD_set_ne false (by decide)] at h; simpa using c1 h, fun h => by rw [getD_set_ne false (by decide)] at h; simpa using c2 h, fun h => by rw [getD_set_ne false (by decide)] at h; simpa using c3 h, fun h => by rw [getD_set_ne false (by decide)] at h; simpa using c4 h, fun h => by rw [getD_set_ne false (by decide)] at h; simpa using c5 h, fun h => by rw [getD_set_ne false (by decide)] at h; simpa using c6 h, fun h => by rw [getD_set_ne false (by decide)] at h; simpa using c7 h, fun h => by rw [getD_set_ne false (by decide)] at h; simpa using c8 h, fun h => by rw [getD_set_ne false (by decide)] at h; simpa using c9 h, fun h => by rw [getD_set_ne false (by decide)] at h; simpa using c10 h, fun h => by rw [getD_set_ne false (by decide)] at h; simpa using c11 h, fun h => by rw [getD_set_ne false (by decide)] at h; simpa using (c12 h), fun _ => by simpa using e12, fun h => by simp [hsz] at h, fun _ => by rw [getD_set_ne false (by decide)]; exact hall ⟨0, .phase⟩ (by simp) rfl, fun _ => by rw [getD_set_ne false (by decide)]; exact hall ⟨12, .phase⟩ (by simp) rfl, fun h => by rw [getD_set_ne false (by decide)] at h; exact ow h, fun h h' => by rw [getD_set_ne false (by decide)] at h h'; exact d11 h h', cbl⟩
            case hdone =>
              rintro listed a w ⟨s, b11, hsz, rfl, c0, c1, c2, c3, c4, c5, c6, c7, c8, c9, c10, c11, c12, c13, i13, n13_0, n13_12, ow, d11, cbl⟩ hr
              have hup := fun j => all_done (md := .any) (by kernel_rfl) hsz hr j
              have L13 := c13 (hup 13 (by decide))
              clear i13 n13_0 n13_12 ow c0 c1 c2 c3 c4 c5 c6 c7 c8 c9 c10 c11 c12 c13 d11 hup hr
              simp only [FrP]
              obtain ⟨pn, cn, e13⟩ := own_open L13
              rw [e13] at L13 ⊢
              have HL13 := Lib.hid L13; have HBZ := Lib.hid cbl
              have HPN2 : Hid (pcs P none C = (ini ++ [(sq, e)]) ++ pcs P (some (x, y)) (C.drop (k + 1))) := Lib.hid (by rw [HPN.out, pcs_two, if_pos HPT.out]; show ini ++ (if e = x then _ else _) = _; rw [if_neg hex, HD2.out, List.append_assoc]; rfl)
              clear L13 cbl e13
              go_wp2_with fail
              go_roundw
              case rel => exact ⟨k + 1, some (x, y), ini ++ [(sq, e)], by omega, by go_num, Lib.hid (by have h := HL13.out; rw [← HXS.out] at h; simpa [cells2, HN.out] using h), (fun h => by cases h), by simp [HN.out]; omega, HPN2, HBZ⟩
              case measure => simp [intOf]; omega
      · have HPF2 : Hid (pcs P none C = ini ++ pcs P cur (C.drop (k + 1))) := Lib.hid (by rw [HPN.out, pcs_two, if_neg (by rw [hp]; decide), HD2.out])
        rw [hp]
        clear hp
        go_wp2_with fail
        go_roundw
        case rel => exact ⟨k + 1, cur, ini, by omega, by go_num, Lib.hid (by rw [HM.out]; exact HO3.out), hcur, by rw [HM.out]; omega, HPF2, HB3⟩
        case measure => simp [intOf]; omega
    · have hge : (C.length : Int) ≤ (k : Int) + 1 := by omega
      have HE : Hid (comb f la lb = ini ++ cur.toList) := Lib.hid (by rw [← HPC.out, HPR.out, pcs_end (by simp; omega)])
      have HL := Lib.hid (own_lst (l := ini ++ cur.toList) (by rw [HM.out]; exact HOWN.out) (by rw [HM.out]; omega))
      go_wp2_with fail
      go_ret
      exact ⟨_, rfl, by rw [HE.out]; exact HL.out, HB1.out.trans (HB.out.mono HB1.out.size)⟩
end Go.Proofs.Ytodkppeikpaclaa
