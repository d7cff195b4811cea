/- Pow of package nat, for odd moduli. Each theorem names its conditions. -/
import Derived.Test.YtakbkbmjeanboaaGreatDoorMonC
namespace Go.Proofs.YtakbkbmjeanboaaGreatDoor
open Go.RowKit Go.Shelf
open Dgt
set_option linter.unusedVariables false
attribute [local go_sem] Oper.semAt_some

def SO8 (z ux : Value) (e : ByteArray) (x0 k E V : Nat) (j : Nat) (v : Value) (w : World) : Prop :=
  match j with
  | 0 => v = z
  | 1 => ∃ mi : Nat, v = .agg #[z, .int .u32 (mi : Int)] ∧ mi < 4294967296 ∧ (mi * x0 + 1) % 4294967296 = 0
  | 2 => v = ux
  | 3 => v = .string e
  | 4 => Lim w v (digs 4294967296 E)
  | 5 => LimN w v k V
  | 6 => v = .string (encS V)
  | 7 => v = .string (encS V)
  | 8 => v = .bool true
  | _ => True
theorem SO8_up (z ux : Value) (e : ByteArray) (x0 k E V : Nat) (j : Nat) (v : Value) (w w' : World) (hb : Below w.heap.size w w') (h : SO8 z ux e x0 k E V j v w) : SO8 z ux e x0 k E V j v w' := by
  unfold SO8 at h ⊢
  split at h
  · exact h
  · exact h
  · exact h
  · exact h
  · exact h.up hb
  · exact h.up hb
  · exact h
  · exact h
  · exact h
  · trivial
set_option maxHeartbeats 4000000 in
set_option maxRecDepth 100000 in
theorem Pow_odd (a e m : ByteArray) (w : World) (ha : a.size ≤ 100000000) (he : e.size ≤ 100000000) (hm : m.size ≤ 100000000) (hev : numS m % 2 = 1) (hne1 : numS m ≠ 1) :
    Calls Tryz.prog 23 #[.string a, .string e, .string m] w fun r w' => r = .returned (.tuple #[.string (encS (powS (numS a) (numS e) (numS m))), .bool (decide (numS m ≠ 0))]) ∧ Below w.heap.size w w' := by
  have OM := Lib.hid (of_any m · (by omega))
  have OA := Lib.hid (of_any a · (by omega))
  have OE := Lib.hid (of_any e · (by omega))
  have LA := Lib.hid (show (digs 4294967296 (numS a)).length ≤ 100000000 from Nat.le_trans (len32 a) ha)
  have LE := Lib.hid (show (digs 4294967296 (numS e)).length ≤ 100000000 from Nat.le_trans (len32 e) he)
  have LM := Lib.hid (show (digs 4294967296 (numS m)).length ≤ 100000000 from Nat.le_trans (len32 m) hm)
  obtain ⟨A, hA⟩ : ∃ A, numS a = A := ⟨_, rfl⟩
  obtain ⟨E, hE⟩ : ∃ E, numS e = E := ⟨_, rfl⟩
  obtain ⟨M, hM⟩ : ∃ M, numS m = M := ⟨_, rfl⟩
  rw [hA] at OA LA; rw [hE] at OE LE; rw [hM] at OM LM hev hne1
  rw [hA, hE, hM]
  clear hA hE hM ha he hm
  refine callsIn_wide (n := 0) |>.1 ?_
  refine callsIn_of_wp_marks Tryz.func23 rfl trivial ?_
  simp only [Tryz.ntmps23, List.size_toArray, List.length_cons, List.length_nil, Nat.reduceAdd, Nat.reduceSub, Array.replicate_succ, Array.replicate_zero, List.push_toArray, List.append_toArray, List.nil_append, List.cons_append]
  gi_wp2_with fail
  refine ⟨trivial, rfl, ?_⟩
  refine (callsIn_wide.2 (OM.out _)).mono ?_
  rintro r w1 ⟨vz, rfl, hz, hb1⟩
  obtain ⟨pz, nz, cz, rfl, hnz, hcz, hcmz⟩ := hz.open_
  have h0 : 0 < M := by omega
  have hd := digs_pos (B := 4294967296) (by decide) h0
  obtain ⟨x0, hx0⟩ : ∃ x0, M % 4294967296 = x0 := ⟨_, rfl⟩
  obtain ⟨D, hD⟩ : ∃ D, digs 4294967296 M = D := ⟨_, rfl⟩
  have hDl : 0 < D.length := by rw [← hD, hd]; simp
  have hD0 : D[0]'hDl = x0 := by simp only [← hD, hd, List.getElem_cons_zero, hx0]
  rw [hD] at hz hnz
  obtain ⟨gz, oz, rfl, hgz, hcz0⟩ := hz.cell hDl
  rw [hD0, Nat.add_zero] at hcz0
  have hx2 : x0 % 2 = 1 := by omega
  have hxl : x0 < 4294967296 := by omega
  have q1 : (x0 : Int) % 2 = 1 := by omega
  have hone : nz = 1 → x0 ≠ 1 := fun h1 h2 => hne1 (by
    have hv := valB_digs (B := 4294967296) (by decide) M
    rw [hD] at hv
    have : D = [x0] := by
      cases D with
      | nil => simp at hDl
      | cons y r => cases r with
        | nil => simpa using hD0
        | cons y2 r => simp at hnz; omega
    rw [← hv, this, valB_one, h2])
  have hn0 : ¬ (nz : Int) = 0 := by omega
  have hcz1 : ∀ o, (w1.alloc o).cell? ⟨gz, oz, none⟩ = some (.int .u32 (x0 : Int)) := fun o => by rw [cell_up ((Below.refl _ w1).alloc (Nat.le_refl _) o) hgz]; exact hcz0
  have HB := Lib.hid hb1; have HZ := Lib.hid hz; have HD := Lib.hid hD; have HM0 := Lib.hid h0; have HEV := Lib.hid hev; have HNZ := Lib.hid hnz; have HX := Lib.hid hx0; have HXL := Lib.hid hxl; have HX2 := Lib.hid hx2; have HGZ := Lib.hid hgz; have HDL := Lib.hid hDl; have HD0 := Lib.hid hD0
  clear hb1 hz hD h0 hev hnz hx0 hxl hx2 hgz hd hD0
  have HB8 : Hid (∀ W', Below (w1.alloc (.cells #[.slice (some ⟨gz, oz, none⟩) nz cz] 61)).heap.size (w1.alloc (.cells #[.slice (some ⟨gz, oz, none⟩) nz cz] 61)) W' → W'.heap[w1.heap.size]? = some (.cells #[.slice (some ⟨gz, oz, none⟩) nz cz] 61 (0, 0))) := Lib.hid fun W' h => block_new h (heap_alloc_new w1 _)
  have HZ8 : Hid (∀ W', Below (w1.alloc (.cells #[.slice (some ⟨gz, oz, none⟩) nz cz] 61)).heap.size (w1.alloc (.cells #[.slice (some ⟨gz, oz, none⟩) nz cz] 61)) W' → Lim W' (.slice (some ⟨gz, oz, none⟩) nz cz) (digs 4294967296 M)) := Lib.hid fun W' h => by rw [HD.out]; exact (HZ.out.up ((Below.refl _ w1).alloc (Nat.le_refl _) _)).up h
  have HNE1 := Lib.hid hne1; have HX0D : Hid ((digs 4294967296 M)[0]? = some x0) := Lib.hid (by rw [HD.out, List.getElem?_eq_getElem HDL.out, HD0.out])
  by_cases hn1 : (nz : Int) = 1
  · have q2 : ((x0 : Int) == 1) = false := by have := hone (by omega); simp; omega
    have q3 : ¬ (x0 : Int) = 1 := by have := hone (by omega); omega
    clear hone hne1
    gi_wp2_with fail
    refine wpIn_region_box (w := w1.alloc (Obj.cells #[Value.slice (some { block := gz, off := oz }) nz cz] 61)) (by kernel_rfl) (SP6 a A M (.slice (some ⟨gz, oz, none⟩) nz cz)) (fun u w => Lim w u (digs 4294967296 (A % M))) 7 9 (.slice none 0 0) 61 (fun t => (decide (27 ≤ t) && decide (t < 34)) || (decide (9 ≤ t) && decide (t < 11))) (by kernel_rfl) (by kernel_rfl) (by kernel_rfl) (by decide) (by decide) (by decide)
      10 rfl rfl (fun o ho => by simp at ho; subst ho; exact ⟨⟨7, .data⟩, by simp, rfl, rfl⟩) (SP6_up _ _ _ _) (fun v w w' hb h => h.up hb) (SP6_box _ _ _ _ _) (fun b0 v w u hz h => h.box hz u) ?_ ?_ ?_ ?_ ?_
    · intro i hi hi1 hi2 o listed a' w' hR K hK
      have ho := hR.at_
      have hi : i < 10 := hi
      have hii : i = 0 ∨ i = 1 ∨ i = 2 ∨ i = 3 ∨ i = 4 ∨ i = 5 ∨ i = 6 ∨ i = 8 := by omega
      clear hi hi1 hi2
      rcases hii with rfl | rfl | rfl | rfl | rfl | rfl | rfl | rfl
      · simp at ho
        subst ho
        have b0 : a'.tmps.getD 0 undef = .string a := hR.base 0 (by kernel_rfl)
        refine plain_stepI rfl rfl ?_
        go_simp
        exact hK _ _ rfl (Below.refl _ _)
      · simp at ho
        subst ho
        have e0 : a'.tmps.getD 28 undef = .string a := hR.dep ⟨0, .data⟩ (by simp) rfl (by decide)
        refine plain_stepI rfl rfl ?_
        go_simp
        refine ⟨trivial, rfl, ?_⟩
        refine (callsIn_wide.2 (OA.out _)).mono ?_
        rintro r w2 ⟨v, rfl, hl, hb⟩
        exact hK _ _ hl hb
      · simp at ho
        subst ho
        have b8 : a'.tmps.getD 8 undef = .pointer (some ⟨w1.heap.size, 0, none⟩) := hR.base 8 (by kernel_rfl)
        have c8 := (box_cell (HB8.out _ hR.below)).1
        refine plain_stepI rfl rfl ?_
        go_simp
        exact hK _ _ rfl (Below.refl _ _)
      · simp at ho
        subst ho
        have e1 : Lim w' (a'.tmps.getD 29 undef) (digs 4294967296 A) := hR.dep ⟨1, .data⟩ (by simp) rfl (by decide)
        have e2 : a'.tmps.getD 30 undef = .slice (some ⟨gz, oz, none⟩) nz cz := hR.dep ⟨2, .data⟩ (by simp) rfl (by decide)
        obtain ⟨v1, hv1⟩ : ∃ v1, a'.tmps.getD 29 undef = v1 := ⟨_, rfl⟩
        rw [hv1] at e1
        refine plain_stepI rfl rfl ?_
        go_simp
        refine ⟨trivial, rfl, ?_⟩
        refine (callsIn_wide.2 (divide_any _ _ A M _ e1 (HZ8.out _ hR.below) HM0.out (by have := LA.out; omega))).mono ?_
        rintro r w2 ⟨vq, vr, rfl, hq, hr, hb⟩
        exact hK _ _ ⟨_, _, rfl, hr⟩ hb
      · simp at ho
        subst ho
        obtain ⟨vq, vr, e3, hr⟩ : ∃ vq vr, a'.tmps.getD 31 undef = .tuple #[vq, vr] ∧ Lim w' vr (digs 4294967296 (A % M)) := hR.dep ⟨3, .data⟩ (by simp) rfl (by decide)
        refine plain_stepI rfl rfl ?_
        go_simp
        exact hK _ _ ⟨_, _, rfl, hr⟩ (Below.refl _ _)
      · simp at ho
        subst ho
        obtain ⟨vq, vr, e3, hr⟩ : ∃ vq vr, a'.tmps.getD 27 undef = .tuple #[vq, vr] ∧ Lim w' vr (digs 4294967296 (A % M)) := hR.dep ⟨4, .data⟩ (by simp) rfl (by decide)
        refine plain_stepI rfl rfl ?_
        go_simp
        exact hK _ _ trivial (Below.refl _ _)
      · simp at ho
        subst ho
        obtain ⟨vq, vr, e3, hr⟩ : ∃ vq vr, a'.tmps.getD 27 undef = .tuple #[vq, vr] ∧ Lim w' vr (digs 4294967296 (A % M)) := hR.dep ⟨4, .data⟩ (by simp) rfl (by decide)
        refine plain_stepI rfl rfl ?_
        go_simp
        exact hK _ _ hr (Below.refl _ _)
      · simp at ho
        subst ho
        refine plain_stepI rfl rfl ?_
        go_simp
        exact hK _ _ trivial (Below.refl _ _)
    · intro o listed a' w' hR K hK
      have ho := hR.at_
      simp at ho
      subst ho
      refine plain_stepI rfl rfl ?_
      go_simp
      exact hK
    · intro b0 o listed a' w' hR hda hz K hK
      have ho := hR.at_
      simp at ho
      subst ho
      have e6 : Lim w' (a'.tmps.getD 33 undef) (digs 4294967296 (A % M)) := hR.dep ⟨6, .data⟩ (by simp) rfl (by decide)
      have c0 := (box_cell hz).1
      have z0 := (box_cell hz).2
      obtain ⟨v1, hv1⟩ : ∃ v1, a'.tmps.getD 33 undef = v1 := ⟨_, rfl⟩
      rw [hv1] at e6
      obtain ⟨p1, n1, d1, rfl, -⟩ := e6.open_
      refine plain_stepI rfl rfl ?_
      go_simp
      exact hK _ e6
    · intro v w'; trivial
    · intro s b10 ux W2 hS hb2 hge h10 hu10 hU
      simp only [over, Nat.zero_add, Nat.reduceAdd, Nat.reduceLeDiff, Nat.reduceLT, decide_true, decide_false, Bool.and_true, Bool.and_false, Bool.or_false, Bool.or_true, cond_true, cond_false]
      rw [h10]
      have HB2 := Lib.hid (HB.out.trans ((((Below.refl _ w1).alloc (Nat.le_refl _) (.cells #[.slice (some ⟨gz, oz, none⟩) nz cz] 61)).trans (hb2.mono (by simp))).mono HB.out.size))
      have HU10 := Lib.hid hu10; have HUX := Lib.hid hU
      have HB8' := Lib.hid (HB8.out _ hb2); have HZ8' := Lib.hid (HZ8.out _ hb2)
      have c8 := (box_cell (HB8.out _ hb2)).1
      have HGE := Lib.hid hge
      have HB12 := Lib.hid hb2
      have cz2 : W2.cell? ⟨gz, oz, none⟩ = some (.int .u32 (x0 : Int)) := by rw [cell_up (((Below.refl _ w1).alloc (Nat.le_refl _) (.cells #[.slice (some ⟨gz, oz, none⟩) nz cz] 61)).trans (hb2.mono (by simp))) HGZ.out]; exact hcz0
      clear hS hb2 hge h10 hu10 hU hcz1
      obtain ⟨k, hk⟩ : ∃ k, (digs 4294967296 M).length = k := ⟨_, rfl⟩
      have hk0 : 0 < k := by rw [← hk, HD.out]; exact HDL.out
      have hk9 : k ≤ 100000000 := by rw [← hk]; exact LM.out
      have hAk : (digs 4294967296 (A % M)).length ≤ k := by rw [← hk]; exact digs_len_mono (by decide) (Nat.le_of_lt (Nat.mod_lt _ HM0.out))
      have HKK := Lib.hid hk; have HK0 := Lib.hid hk0; have HK9 := Lib.hid hk9; have HAK := Lib.hid hAk
      clear hk hk0 hk9 hAk
      gi_wp2_with fail
      refine wpIn_region_vals (w := W2) (by kernel_rfl) (SO8 (.slice (some ⟨gz, oz, none⟩) nz cz) ux e x0 k E (A ^ E % M)) (fun t => (decide (39 ≤ t) && decide (t < 46)) || (decide (6 ≤ t) && decide (t < 8))) (by kernel_rfl) (by kernel_rfl) (by kernel_rfl) (SO8_up _ _ _ _ _ _ _) ?_ ?_
      · intro i hi o listed a' w' hR K hK
        have ho := hR.at_
        have hi : i < 9 := hi
        have hii : i = 0 ∨ i = 1 ∨ i = 2 ∨ i = 3 ∨ i = 4 ∨ i = 5 ∨ i = 6 ∨ i = 7 ∨ i = 8 := by omega
        have HBL := Lib.hid hR.below
        have d8 := (box_cell (heap_up HBL.out HB8'.out)).1
        have d10 := (box_cell (heap_up HBL.out HU10.out)).1
        have cz3 : w'.cell? ⟨gz, oz, none⟩ = some (.int .u32 (x0 : Int)) := by
          rw [cell_up HBL.out (Nat.lt_of_lt_of_le HGZ.out (by have := HB12.out.size; rw [World.size_alloc] at this; omega))]; exact cz2
        clear hi
        rcases hii with rfl | rfl | rfl | rfl | rfl | rfl | rfl | rfl | rfl
        · simp at ho
          subst ho
          have b3 : a'.tmps.getD 8 undef = .pointer (some ⟨w1.heap.size, 0, none⟩) := hR.base 8 (by kernel_rfl)
          refine plain_stepI rfl rfl ?_
          go_simp
          exact hK _ _ rfl (Below.refl _ _)
        · simp at ho
          subst ho
          have e0 : a'.tmps.getD 39 undef = .slice (some ⟨gz, oz, none⟩) nz cz := hR.dep ⟨0, .data⟩ (by simp) rfl
          refine plain_stepI rfl rfl ?_
          go_simp
          refine ⟨trivial, rfl, ?_⟩
          refine (callsIn_wide.2 (newOdd_any _ D w' (by rw [← HD.out]; exact HZ8'.out.up HBL.out) HDL.out (by rw [HD0.out]; exact HX2.out))).mono ?_
          rintro r w3 ⟨mi, rfl, h1, h2, hb⟩
          rw [HD0.out] at h2
          exact hK _ _ ⟨mi, rfl, h1, h2⟩ hb
        · simp at ho
          subst ho
          have b3 : a'.tmps.getD 10 undef = .pointer (some ⟨b10, 0, none⟩) := hR.base 10 (by kernel_rfl)
          refine plain_stepI rfl rfl ?_
          go_simp
          exact hK _ _ rfl (Below.refl _ _)
        · simp at ho
          subst ho
          have b3 : a'.tmps.getD 1 undef = .string e := hR.base 1 (by kernel_rfl)
          refine plain_stepI rfl rfl ?_
          go_simp
          exact hK _ _ rfl (Below.refl _ _)
        · simp at ho
          subst ho
          have e3 : a'.tmps.getD 42 undef = .string e := hR.dep ⟨3, .data⟩ (by simp) rfl
          refine plain_stepI rfl rfl ?_
          go_simp
          refine ⟨trivial, rfl, ?_⟩
          refine (callsIn_wide.2 (OE.out _)).mono ?_
          rintro r w3 ⟨v, rfl, hl, hb⟩
          exact hK _ _ hl hb
        · simp at ho
          subst ho
          obtain ⟨mi, e1, hm1, hm2⟩ : ∃ mi : Nat, a'.tmps.getD 40 undef = .agg #[.slice (some ⟨gz, oz, none⟩) nz cz, .int .u32 (mi : Int)] ∧ mi < 4294967296 ∧ (mi * x0 + 1) % 4294967296 = 0 := hR.dep ⟨1, .data⟩ (by simp) rfl
          have e2 : a'.tmps.getD 41 undef = ux := hR.dep ⟨2, .data⟩ (by simp) rfl
          have e4 : Lim w' (a'.tmps.getD 43 undef) (digs 4294967296 E) := hR.dep ⟨4, .data⟩ (by simp) rfl
          obtain ⟨v1, hv1⟩ : ∃ v1, a'.tmps.getD 43 undef = v1 := ⟨_, rfl⟩
          rw [hv1] at e4
          refine plain_stepI rfl rfl ?_
          go_simp
          refine ⟨trivial, rfl, ?_⟩
          refine (callsIn_wide.2 (pow_any _ ux v1 (digs 4294967296 (A % M)) E M mi x0 k w' (HUX.out.up HBL.out) e4 (HZ8'.out.up HBL.out) HKK.out HK0.out HK9.out HAK.out LE.out (by have := HNE1.out; have := HM0.out; omega) HEV.out hm1 HX0D.out hm2)).mono ?_
          rintro r w3 ⟨v, rfl, hl, hb⟩
          rw [valB_digs (by decide), ← Nat.pow_mod] at hl
          exact hK _ _ hl hb
        · simp at ho
          subst ho
          obtain ⟨lr, e5, h5, h6⟩ : LimN w' (a'.tmps.getD 44 undef) k (A ^ E % M) := hR.dep ⟨5, .data⟩ (by simp) rfl
          obtain ⟨v1, hv1⟩ : ∃ v1, a'.tmps.getD 44 undef = v1 := ⟨_, rfl⟩
          rw [hv1] at e5
          refine plain_stepI rfl rfl ?_
          go_simp
          refine ⟨trivial, rfl, ?_⟩
          refine (callsIn_wide.2 (number_any v1 lr w' e5 (by rw [h5]; have := HK9.out; omega))).mono ?_
          rintro r w3 ⟨rfl, hb⟩
          rw [h6]
          exact hK _ _ rfl hb
        · simp at ho
          subst ho
          have e6 : a'.tmps.getD 45 undef = .string (encS (A ^ E % M)) := hR.dep ⟨6, .data⟩ (by simp) rfl
          refine plain_stepI rfl rfl ?_
          go_simp
          exact hK _ _ rfl (Below.refl _ _)
        · simp at ho
          subst ho
          refine plain_stepI rfl rfl ?_
          go_simp
          exact hK _ _ rfl (Below.refl _ _)
      · intro s W8 hS hb8
        have e6 : s 6 = .string (encS (A ^ E % M)) := hS 7 (by decide)
        have e7 : s 7 = .bool true := hS 8 (by decide)
        simp only [over, Nat.zero_add, Nat.reduceAdd, Nat.reduceLeDiff, Nat.reduceLT, decide_true, decide_false, Bool.and_true, Bool.and_false, Bool.or_false, Bool.or_true, cond_true, cond_false]
        rw [e6, e7]
        have HBX := Lib.hid (HB2.out.trans (hb8.mono HB2.out.size))
        clear hS hb8 e6 e7
        gi_wp2_with fail
        have hMn : M ≠ 0 := by have := HM0.out; omega
        refine ⟨_, results_tmp2 rfl _ _ _, ?_, HBX.out⟩
        simp [powS, hMn]
  · clear hone hne1
    gi_wp2_with fail
    refine wpIn_region_box (w := w1.alloc (Obj.cells #[Value.slice (some { block := gz, off := oz }) nz cz] 61)) (by kernel_rfl) (SP6 a A M (.slice (some ⟨gz, oz, none⟩) nz cz)) (fun u w => Lim w u (digs 4294967296 (A % M))) 7 9 (.slice none 0 0) 61 (fun t => (decide (27 ≤ t) && decide (t < 34)) || (decide (9 ≤ t) && decide (t < 11))) (by kernel_rfl) (by kernel_rfl) (by kernel_rfl) (by decide) (by decide) (by decide)
      10 rfl rfl (fun o ho => by simp at ho; subst ho; exact ⟨⟨7, .data⟩, by simp, rfl, rfl⟩) (SP6_up _ _ _ _) (fun v w w' hb h => h.up hb) (SP6_box _ _ _ _ _) (fun b0 v w u hz h => h.box hz u) ?_ ?_ ?_ ?_ ?_
    · intro i hi hi1 hi2 o listed a' w' hR K hK
      have ho := hR.at_
      have hi : i < 10 := hi
      have hii : i = 0 ∨ i = 1 ∨ i = 2 ∨ i = 3 ∨ i = 4 ∨ i = 5 ∨ i = 6 ∨ i = 8 := by omega
      clear hi hi1 hi2
      rcases hii with rfl | rfl | rfl | rfl | rfl | rfl | rfl | rfl
      · simp at ho
        subst ho
        have b0 : a'.tmps.getD 0 undef = .string a := hR.base 0 (by kernel_rfl)
        refine plain_stepI rfl rfl ?_
        go_simp
        exact hK _ _ rfl (Below.refl _ _)
      · simp at ho
        subst ho
        have e0 : a'.tmps.getD 28 undef = .string a := hR.dep ⟨0, .data⟩ (by simp) rfl (by decide)
        refine plain_stepI rfl rfl ?_
        go_simp
        refine ⟨trivial, rfl, ?_⟩
        refine (callsIn_wide.2 (OA.out _)).mono ?_
        rintro r w2 ⟨v, rfl, hl, hb⟩
        exact hK _ _ hl hb
      · simp at ho
        subst ho
        have b8 : a'.tmps.getD 8 undef = .pointer (some ⟨w1.heap.size, 0, none⟩) := hR.base 8 (by kernel_rfl)
        have c8 := (box_cell (HB8.out _ hR.below)).1
        refine plain_stepI rfl rfl ?_
        go_simp
        exact hK _ _ rfl (Below.refl _ _)
      · simp at ho
        subst ho
        have e1 : Lim w' (a'.tmps.getD 29 undef) (digs 4294967296 A) := hR.dep ⟨1, .data⟩ (by simp) rfl (by decide)
        have e2 : a'.tmps.getD 30 undef = .slice (some ⟨gz, oz, none⟩) nz cz := hR.dep ⟨2, .data⟩ (by simp) rfl (by decide)
        obtain ⟨v1, hv1⟩ : ∃ v1, a'.tmps.getD 29 undef = v1 := ⟨_, rfl⟩
        rw [hv1] at e1
        refine plain_stepI rfl rfl ?_
        go_simp
        refine ⟨trivial, rfl, ?_⟩
        refine (callsIn_wide.2 (divide_any _ _ A M _ e1 (HZ8.out _ hR.below) HM0.out (by have := LA.out; omega))).mono ?_
        rintro r w2 ⟨vq, vr, rfl, hq, hr, hb⟩
        exact hK _ _ ⟨_, _, rfl, hr⟩ hb
      · simp at ho
        subst ho
        obtain ⟨vq, vr, e3, hr⟩ : ∃ vq vr, a'.tmps.getD 31 undef = .tuple #[vq, vr] ∧ Lim w' vr (digs 4294967296 (A % M)) := hR.dep ⟨3, .data⟩ (by simp) rfl (by decide)
        refine plain_stepI rfl rfl ?_
        go_simp
        exact hK _ _ ⟨_, _, rfl, hr⟩ (Below.refl _ _)
      · simp at ho
        subst ho
        obtain ⟨vq, vr, e3, hr⟩ : ∃ vq vr, a'.tmps.getD 27 undef = .tuple #[vq, vr] ∧ Lim w' vr (digs 4294967296 (A % M)) := hR.dep ⟨4, .data⟩ (by simp) rfl (by decide)
        refine plain_stepI rfl rfl ?_
        go_simp
        exact hK _ _ trivial (Below.refl _ _)
      · simp at ho
        subst ho
        obtain ⟨vq, vr, e3, hr⟩ : ∃ vq vr, a'.tmps.getD 27 undef = .tuple #[vq, vr] ∧ Lim w' vr (digs 4294967296 (A % M)) := hR.dep ⟨4, .data⟩ (by simp) rfl (by decide)
        refine plain_stepI rfl rfl ?_
        go_simp
        exact hK _ _ hr (Below.refl _ _)
      · simp at ho
        subst ho
        refine plain_stepI rfl rfl ?_
        go_simp
        exact hK _ _ trivial (Below.refl _ _)
    · intro o listed a' w' hR K hK
      have ho := hR.at_
      simp at ho
      subst ho
      refine plain_stepI rfl rfl ?_
      go_simp
      exact hK
    · intro b0 o listed a' w' hR hda hz K hK
      have ho := hR.at_
      simp at ho
      subst ho
      have e6 : Lim w' (a'.tmps.getD 33 undef) (digs 4294967296 (A % M)) := hR.dep ⟨6, .data⟩ (by simp) rfl (by decide)
      have c0 := (box_cell hz).1
      have z0 := (box_cell hz).2
      obtain ⟨v1, hv1⟩ : ∃ v1, a'.tmps.getD 33 undef = v1 := ⟨_, rfl⟩
      rw [hv1] at e6
      obtain ⟨p1, n1, d1, rfl, -⟩ := e6.open_
      refine plain_stepI rfl rfl ?_
      go_simp
      exact hK _ e6
    · intro v w'; trivial
    · intro s b10 ux W2 hS hb2 hge h10 hu10 hU
      simp only [over, Nat.zero_add, Nat.reduceAdd, Nat.reduceLeDiff, Nat.reduceLT, decide_true, decide_false, Bool.and_true, Bool.and_false, Bool.or_false, Bool.or_true, cond_true, cond_false]
      rw [h10]
      have HB2 := Lib.hid (HB.out.trans ((((Below.refl _ w1).alloc (Nat.le_refl _) (.cells #[.slice (some ⟨gz, oz, none⟩) nz cz] 61)).trans (hb2.mono (by simp))).mono HB.out.size))
      have HU10 := Lib.hid hu10; have HUX := Lib.hid hU
      have HB8' := Lib.hid (HB8.out _ hb2); have HZ8' := Lib.hid (HZ8.out _ hb2)
      have c8 := (box_cell (HB8.out _ hb2)).1
      have HGE := Lib.hid hge
      have HB12 := Lib.hid hb2
      have cz2 : W2.cell? ⟨gz, oz, none⟩ = some (.int .u32 (x0 : Int)) := by rw [cell_up (((Below.refl _ w1).alloc (Nat.le_refl _) (.cells #[.slice (some ⟨gz, oz, none⟩) nz cz] 61)).trans (hb2.mono (by simp))) HGZ.out]; exact hcz0
      clear hS hb2 hge h10 hu10 hU hcz1
      obtain ⟨k, hk⟩ : ∃ k, (digs 4294967296 M).length = k := ⟨_, rfl⟩
      have hk0 : 0 < k := by rw [← hk, HD.out]; exact HDL.out
      have hk9 : k ≤ 100000000 := by rw [← hk]; exact LM.out
      have hAk : (digs 4294967296 (A % M)).length ≤ k := by rw [← hk]; exact digs_len_mono (by decide) (Nat.le_of_lt (Nat.mod_lt _ HM0.out))
      have HKK := Lib.hid hk; have HK0 := Lib.hid hk0; have HK9 := Lib.hid hk9; have HAK := Lib.hid hAk
      clear hk hk0 hk9 hAk
      gi_wp2_with fail
      refine wpIn_region_vals (w := W2) (by kernel_rfl) (SO8 (.slice (some ⟨gz, oz, none⟩) nz cz) ux e x0 k E (A ^ E % M)) (fun t => (decide (39 ≤ t) && decide (t < 46)) || (decide (6 ≤ t) && decide (t < 8))) (by kernel_rfl) (by kernel_rfl) (by kernel_rfl) (SO8_up _ _ _ _ _ _ _) ?_ ?_
      · intro i hi o listed a' w' hR K hK
        have ho := hR.at_
        have hi : i < 9 := hi
        have hii : i = 0 ∨ i = 1 ∨ i = 2 ∨ i = 3 ∨ i = 4 ∨ i = 5 ∨ i = 6 ∨ i = 7 ∨ i = 8 := by omega
        have HBL := Lib.hid hR.below
        have d8 := (box_cell (heap_up HBL.out HB8'.out)).1
        have d10 := (box_cell (heap_up HBL.out HU10.out)).1
        have cz3 : w'.cell? ⟨gz, oz, none⟩ = some (.int .u32 (x0 : Int)) := by
          rw [cell_up HBL.out (Nat.lt_of_lt_of_le HGZ.out (by have := HB12.out.size; rw [World.size_alloc] at this; omega))]; exact cz2
        clear hi
        rcases hii with rfl | rfl | rfl | rfl | rfl | rfl | rfl | rfl | rfl
        · simp at ho
          subst ho
          have b3 : a'.tmps.getD 8 undef = .pointer (some ⟨w1.heap.size, 0, none⟩) := hR.base 8 (by kernel_rfl)
          refine plain_stepI rfl rfl ?_
          go_simp
          exact hK _ _ rfl (Below.refl _ _)
        · simp at ho
          subst ho
          have e0 : a'.tmps.getD 39 undef = .slice (some ⟨gz, oz, none⟩) nz cz := hR.dep ⟨0, .data⟩ (by simp) rfl
          refine plain_stepI rfl rfl ?_
          go_simp
          refine ⟨trivial, rfl, ?_⟩
          refine (callsIn_wide.2 (newOdd_any _ D w' (by rw [← HD.out]; exact HZ8'.out.up HBL.out) HDL.out (by rw [HD0.out]; exact HX2.out))).mono ?_
          rintro r w3 ⟨mi, rfl, h1, h2, hb⟩
          rw [HD0.out] at h2
          exact hK _ _ ⟨mi, rfl, h1, h2⟩ hb
        · simp at ho
          subst ho
          have b3 : a'.tmps.getD 10 undef = .pointer (some ⟨b10, 0, none⟩) := hR.base 10 (by kernel_rfl)
          refine plain_stepI rfl rfl ?_
          go_simp
          exact hK _ _ rfl (Below.refl _ _)
        · simp at ho
          subst ho
          have b3 : a'.tmps.getD 1 undef = .string e := hR.base 1 (by kernel_rfl)
          refine plain_stepI rfl rfl ?_
          go_simp
          exact hK _ _ rfl (Below.refl _ _)
        · simp at ho
          subst ho
          have e3 : a'.tmps.getD 42 undef = .string e := hR.dep ⟨3, .data⟩ (by simp) rfl
          refine plain_stepI rfl rfl ?_
          go_simp
          refine ⟨trivial, rfl, ?_⟩
          refine (callsIn_wide.2 (OE.out _)).mono ?_
          rintro r w3 ⟨v, rfl, hl, hb⟩
          exact hK _ _ hl hb
        · simp at ho
          subst ho
          obtain ⟨mi, e1, hm1, hm2⟩ : ∃ mi : Nat, a'.tmps.getD 40 undef = .agg #[.slice (some ⟨gz, oz, none⟩) nz cz, .int .u32 (mi : Int)] ∧ mi < 4294967296 ∧ (mi * x0 + 1) % 4294967296 = 0 := hR.dep ⟨1, .data⟩ (by simp) rfl
          have e2 : a'.tmps.getD 41 undef = ux := hR.dep ⟨2, .data⟩ (by simp) rfl
          have e4 : Lim w' (a'.tmps.getD 43 undef) (digs 4294967296 E) := hR.dep ⟨4, .data⟩ (by simp) rfl
          obtain ⟨v1, hv1⟩ : ∃ v1, a'.tmps.getD 43 undef = v1 := ⟨_, rfl⟩
          rw [hv1] at e4
          refine plain_stepI rfl rfl ?_
          go_simp
          refine ⟨trivial, rfl, ?_⟩
          refine (callsIn_wide.2 (pow_any _ ux v1 (digs 4294967296 (A % M)) E M mi x0 k w' (HUX.out.up HBL.out) e4 (HZ8'.out.up HBL.out) HKK.out HK0.out HK9.out HAK.out LE.out (by have := HNE1.out; have := HM0.out; omega) HEV.out hm1 HX0D.out hm2)).mono ?_
          rintro r w3 ⟨v, rfl, hl, hb⟩
          rw [valB_digs (by decide), ← Nat.pow_mod] at hl
          exact hK _ _ hl hb
        · simp at ho
          subst ho
          obtain ⟨lr, e5, h5, h6⟩ : LimN w' (a'.tmps.getD 44 undef) k (A ^ E % M) := hR.dep ⟨5, .data⟩ (by simp) rfl
          obtain ⟨v1, hv1⟩ : ∃ v1, a'.tmps.getD 44 undef = v1 := ⟨_, rfl⟩
          rw [hv1] at e5
          refine plain_stepI rfl rfl ?_
          go_simp
          refine ⟨trivial, rfl, ?_⟩
          refine (callsIn_wide.2 (number_any v1 lr w' e5 (by rw [h5]; have := HK9.out; omega))).mono ?_
          rintro r w3 ⟨rfl, hb⟩
          rw [h6]
          exact hK _ _ rfl hb
        · simp at ho
          subst ho
          have e6 : a'.tmps.getD 45 undef = .string (encS (A ^ E % M)) := hR.dep ⟨6, .data⟩ (by simp) rfl
          refine plain_stepI rfl rfl ?_
          go_simp
          exact hK _ _ rfl (Below.refl _ _)
        · simp at ho
          subst ho
          refine plain_stepI rfl rfl ?_
          go_simp
          exact hK _ _ rfl (Below.refl _ _)
      · intro s W8 hS hb8
        have e6 : s 6 = .string (encS (A ^ E % M)) := hS 7 (by decide)
        have e7 : s 7 = .bool true := hS 8 (by decide)
        simp only [over, Nat.zero_add, Nat.reduceAdd, Nat.reduceLeDiff, Nat.reduceLT, decide_true, decide_false, Bool.and_true, Bool.and_false, Bool.or_false, Bool.or_true, cond_true, cond_false]
        rw [e6, e7]
        have HBX := Lib.hid (HB2.out.trans (hb8.mono HB2.out.size))
        clear hS hb8 e6 e7
        gi_wp2_with fail
        have hMn : M ≠ 0 := by have := HM0.out; omega
        refine ⟨_, results_tmp2 rfl _ _ _, ?_, HBX.out⟩
        simp [powS, hMn]

/-- Pow, for all moduli -/
theorem Pow_any (a e m : ByteArray) (w : World) (ha : a.size ≤ 100000000) (he : e.size ≤ 100000000) (hm : m.size ≤ 100000000) :
    Calls Tryz.prog 23 #[.string a, .string e, .string m] w fun r w' => r = .returned (.tuple #[.string (encS (powS (numS a) (numS e) (numS m))), .bool (decide (numS m ≠ 0))]) ∧ Below w.heap.size w w' := by
  by_cases h : numS m % 2 = 1 ∧ numS m ≠ 1
  · exact Pow_odd a e m w ha he hm h.1 h.2
  · exact Pow_even a e m w ha he hm (by omega)
end Go.Proofs.YtakbkbmjeanboaaGreatDoor
