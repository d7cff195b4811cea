/- Of of the reference implementation. Each theorem names its conditions. -/
import Derived.Test.YtakbkbmjeanboaaGreatDoorRefT
import Derived.OwnWalk
import Derived.Laws.AppendOwn
namespace Go.Proofs.YtakbkbmjeanboaaGreatDoor
open Go.RowKit Go.Shelf
open Dgt
set_option linter.unusedVariables false

theorem infoInt : (Tryz.prog.info? 3).map (fun i => (i.zero, i.size, i.bytes)) = some (some (.int .i64 0), 1, 8) := by kernel_rfl
theorem info_partsN {P : Program} {t : TypeId} {z : Value} {a b : Nat} (h : (P.info? t).map (fun i => (i.zero, i.size, i.bytes)) = some (some z, a, b)) : ∃ i, P.info? t = some i ∧ i.zero = some z ∧ i.size = a ∧ i.bytes = b := by
  rcases hi : P.info? t with _ | i
  · rw [hi] at h; simp at h
  · rw [hi] at h; simp at h; exact ⟨i, rfl, h.1, h.2.1, h.2.2⟩
theorem cell_fresh (w : World) (x : Value) (t : TypeId) : ∀ (j : Nat) (u : Value), [x][j]? = some u → (w.alloc (.cells #[x] t)).cell? ((⟨w.heap.size, 0, none⟩ : Addr).add j) = some u := by
  intro j u h
  have hj : j = 0 := by have := (List.getElem?_eq_some_iff.1 h).1; simp at this; omega
  subst hj; simp at h; subst h
  rw [show (⟨w.heap.size, 0, none⟩ : Addr).add 0 = ⟨w.heap.size, 0, none⟩ from rfl, Lib.cell_of_heap (heap_alloc_new w _)]; rfl
theorem below_grown {B size : Nat} {A W W' : World} {e : TypeId} {n : Nat} {v : Value} {xs : List Value} {o : Obj} (hb : Below B A W) (ho : W.ownsRow B e size v n xs) (hg : (W.alloc o).grownBy W' v.ownBlock) (hB : B ≤ A.heap.size) : Below B A W' := by
  refine (hb.alloc (Nat.le_trans hB hb.size) o).grown hg (Nat.le_trans hB (Nat.le_trans hb.size (by simp))) ?_
  intro g h
  rcases ho.2 with ⟨rfl, _⟩ | ⟨g', cap, cur, rfl, h1, _⟩
  · cases h
  · cases h; exact h1
theorem of_val {m j kk x : Nat} {l : List Nat} (h1 : j ≤ 8) (h2 : (kk : Int) = 56 - 8 * (j : Int)) (h3 : 0 ≤ (kk : Int)) (hv : valB 256 l.reverse = m / 256 ^ (8 - j)) (hx : m / 2 ^ kk % 256 = x) : Hid (valB 256 (l ++ [x]).reverse = m / 256 ^ (8 - (j + 1))) := Lib.hid (by
  rw [List.reverse_append, List.reverse_singleton, List.singleton_append, valB, hv]
  have hj : j ≤ 7 := by omega
  have hk : kk = 8 * (7 - j) := by omega
  rw [hk, Nat.pow_mul] at hx
  rw [show 8 - (j + 1) = 7 - j by omega, show 8 - j = (7 - j) + 1 by omega, Nat.pow_succ, ← Nat.div_div_eq_div_mul]
  rw [show (2 : Nat) ^ 8 = 256 from rfl] at hx
  omega)
/-- the bytes of a list of digits, as a string -/
def strN (l : List Nat) : ByteArray := ⟨(l.map UInt8.ofNat).toArray⟩
theorem numS_strN {l : List Nat} (ho : okB 256 l) : numS (strN l) = valB 256 l.reverse := by
  unfold numS revB strN
  congr 2
  rw [List.map_map]
  have : ∀ x ∈ l, (UInt8.toNat ∘ UInt8.ofNat) x = x := fun x hx => by
    show (UInt8.ofNat x).toNat = x
    rw [UInt8.toNat_ofNat']; exact Nat.mod_eq_of_lt (ho x hx)
  have h2 := List.map_congr_left this
  rw [List.map_id'] at h2
  simpa using h2
theorem strN_size (l : List Nat) : (strN l).size = l.length := by
  show (l.map UInt8.ofNat).toArray.size = _
  simp
theorem conv_own {dst : TypeId} (hd : Tryz.prog.underlying dst = some .string) {W : World} {base : Nat} {e : TypeId} {v : Value} {l : List Nat} (h : W.ownsRow base e 1 v l.length (digC .u8 l)) (ho : okB 256 l) :
    (convert 22 dst v).run Tryz.prog W = .ok (.string (strN l)) W := by
  rcases h.2 with ⟨rfl, h0⟩ | ⟨g, cap, cur, rfl, hg, hgh, hnc, hcm, hcs, hct⟩
  · have : l = [] := List.eq_nil_of_length_eq_zero h0
    subst this
    rw [run_convert_bytes_string W _ _ 5 none 0 0 Tryz.underlying22 Tryz.underlying5 hd]; rfl
  · have h := run_convert_bytes_back W 22 dst 5 ⟨g, 0, none⟩ cap (l.map UInt8.ofNat) Tryz.underlying22 Tryz.underlying5 hd fun j hj => by
      have hj' : j < l.length := by simpa using hj
      have hx : (digC .u8 l)[j]? = some (.int .u8 (l[j] : Int)) := by simp [digC, hj']
      have hc : cur[j]? = some (.int .u8 (l[j] : Int)) := by
        rw [← hct, List.getElem?_take] at hx
        split at hx
        · rw [← Array.getElem?_toList]; exact hx
        · cases hx
      have e : (⟨g, 0, none⟩ : Addr).add j = ⟨g, j, none⟩ := by cases j <;> simp [Addr.add]
      rw [e, Lib.cell_of_heap hgh, hc]
      simp only [List.getElem_map, UInt8.toNat_ofNat']
      rw [Nat.mod_eq_of_lt (ho.get hj')]
    rw [List.length_map] at h
    exact h
set_option maxHeartbeats 1000000 in
set_option maxRecDepth 100000 in
theorem rOf_any (n : Int) (w : World) (hn : n < 9223372036854775808) :
    Calls Tryz.prog 17 #[.int .i64 n] w fun e w' => e = .returned (.string (encS n.toNat)) ∧ Below w.heap.size w w' := by
  obtain ⟨i0, hi, hz0, hz1, hz2⟩ := info_partsN infoU8
  by_cases hp : 0 < n
  · obtain ⟨m, hm⟩ : ∃ m : Nat, n = (m : Int) := ⟨n.toNat, by omega⟩
    have hE : n.toNat = m := by omega
    rw [hE]
    have HM := Lib.hid hm
    have hmb : m < 256 ^ 8 := by omega
    have HMB := Lib.hid hmb
    clear hm hE hmb hn
    go_enter Tryz.func17, Tryz.ntmps17
    go_wp2_with fail
    go_loopw [3, 4] (fun v i wr => ∃ (j : Nat) (k : Int) (l : List Nat), i = .int .i64 k ∧ Hid (j ≤ 8 ∧ k = 56 - 8 * (j : Int)) ∧ Hid (l.length = j) ∧ Hid (okB 256 l) ∧ Hid (valB 256 l.reverse = m / 256 ^ (8 - j)) ∧ Hid (wr.ownsRow w.heap.size 5 1 v l.length (digC .u8 l)) ∧ Hid (Below w.heap.size w wr)) (fun _ i _ => (intOf i + 8).toNat)
    case atStart => exact ⟨0, 56, [], rfl, Lib.hid ⟨by omega, by omega⟩, Lib.hid rfl, Lib.hid (okB_nil _), Lib.hid (by simp [valB]; have := HMB.out; omega), Lib.hid (World.ownsRow_nil _ _ _ _), Lib.hid (Below.refl _ _)⟩
    case round =>
      obtain ⟨j, k, l, rfl, HJ, HL, HOK, HV, HOWN, HB⟩ := hrel
      by_cases hlt : 0 ≤ k
      · obtain ⟨kk, rfl⟩ : ∃ kk : Nat, k = (kk : Int) := ⟨k.toNat, by omega⟩
        have hk56 : (kk : Int) ≤ 56 := by have := HJ.out; omega
        obtain ⟨x, hx⟩ : ∃ x, m / 2 ^ kk % 256 = x := ⟨_, rfl⟩
        have q1 : n / 2 ^ kk % 256 = (x : Int) := by rw [HM.out, ← hx]; simp
        have HX := Lib.hid hx
        have hl8 : l.length ≤ 8 := by have := HJ.out; have := HL.out; omega
        have hlt0 : 0 ≤ (kk : Int) := hlt
        clear hx hlt
        go_wp2_with (first | (at_builtin; refine wpList_append_own _ rfl _ _ 22 rfl w.heap.size 5 i0 (.int .u8 0) 1 1 Tryz.underlying22 hi hz0 hz1 hz2 rfl (by decide) _ _ _ rfl (HOWN.out.alloc _) ⟨wr.heap.size, 0, none⟩ 1 1 [.int .u8 x] rfl rfl (cell_fresh wr _ _) (by simp [Value.oneCell']) (by unfold maxLen; omega) (by omega) (by have := HB.out.size; simp; omega) ?_; intro v1 w1 hown' hgrow hnn; have HO1 := Lib.hid hown'; have HG1 := Lib.hid hgrow; clear hown' hgrow hnn) | fail)
        have HX2 := Lib.hid (show x < 256 by rw [← HX.out]; exact Nat.mod_lt _ (by decide))
        have HVS := Lib.hid (of_val HJ.out.1 HJ.out.2 hlt0 HV.out HX.out)
        go_roundw
        case rel => exact ⟨j + 1, (kk : Int) - 8, l ++ [x], rfl, Lib.hid (by have := HJ.out; omega), Lib.hid (by rw [List.length_append, HL.out]; rfl), Lib.hid (HOK.out.append (fun y hy => by simp at hy; rw [hy]; exact HX2.out)), HVS, Lib.hid (by rw [List.length_append, digC, List.map_append]; exact HO1.out), Lib.hid (below_grown HB.out HOWN.out HG1.out (Nat.le_refl _))⟩
        case measure => simp [intOf]; omega
      · have hlt' : k < 0 := by omega
        have hj8 : j = 8 := by have := HJ.out; omega
        have hcv := conv_own Tryz.underlying24 HOWN.out HOK.out
        have HV8 : Hid (numS (strN l) = m) := Lib.hid (by rw [numS_strN HOK.out, HV.out, hj8, Nat.sub_self, Nat.pow_zero, Nat.div_one])
        have HS8 : Hid ((strN l).size ≤ 100000000) := Lib.hid (by rw [strN_size, HL.out, hj8]; decide)
        clear hlt hj8
        go_wp2_with fail
        refine (Canon_any _ _ HS8.out).mono ?_
        rintro e w1 ⟨rfl, rfl⟩
        rw [HV8.out]
        go_wp2_with fail
        go_ret
        exact ⟨rfl, HB.out⟩
  · have hE : n.toNat = 0 := by omega
    have hp' : n ≤ 0 := by omega
    rw [hE]
    clear hp hE hn
    have hcv : (convert 22 24 (.slice none 0 0)).run Tryz.prog w = .ok (.string (strN [])) w := conv_own (e := 5) (base := 0) Tryz.underlying24 (World.ownsRow_nil _ _ _ _) (okB_nil _)
    have HV8 : Hid (numS (strN []) = 0) := Lib.hid rfl
    go_enter Tryz.func17, Tryz.ntmps17
    go_wp2_with fail
    refine wp_loop_rounds 1 ?_
    rw [rounds_succ]
    go_wp2_with fail
    refine (Canon_any _ _ (by decide)).mono ?_
    rintro e w1 ⟨rfl, rfl⟩
    rw [HV8.out]
    go_wp2_with fail
    go_ret
    exact ⟨rfl, Below.refl _ _⟩
end Go.Proofs.YtakbkbmjeanboaaGreatDoor
