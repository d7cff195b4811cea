/- The iterator over the bounds of two lists of spans: it hands out just the bounds, sorted, each once. -/
import Derived.Test.YtodkppeikpaclaaSpnA
import Derived.Test.YtodkppeikpaclaaSpnP
import Derived.Test.YtodkppeikpaclaaRange
import Derived.OwnWalkIn
import Derived.OwnWalk
import Derived.TacticsInMore
import Derived.LoopNIn
import Derived.LoopIn
import Derived.Sort.OwnSortedInts
import Derived.Lib.RowBridge
namespace Go.Proofs.Ytodkppeikpaclaa
open Go.RowKit Go.Shelf
open Spn
set_option linter.unusedVariables false
attribute [local go_sem] Oper.semAt_some

theorem infoInt : (Try.prog.info? 3).map (fun i => (i.zero, i.size, i.bytes)) = some (some (.int .i64 0), 1, 8) := by kernel_rfl
def ints (zs : List Int) : List Value := zs.map (Value.int .i64)
theorem grow_none (w : World) : w = Sort.grow w #[] := by simp [Sort.grow]
/-- slices.Sort of a row of the call's own -/
theorem sort_any (g cap : Nat) (zs : List Int) (cur : Array Value) (W : World) (hb : W.heap[g]? = some (.cells cur 3 (0, 0))) (ht : cur.toList.take zs.length = ints zs) (hl : zs.length ≤ 1000000) (hs : zs.length ≤ cur.size) :
    Calls Try.prog 62 #[.slice (some ⟨g, 0, none⟩) zs.length cap] W fun e w' => e = .returned (.tuple #[]) ∧ ∃ cur', w'.heap[g]? = some (.cells cur' 3 (0, 0)) ∧ cur'.toList.take zs.length = ints (srt zs) ∧ cur'.size = cur.size ∧ W.grownBy w' (some g) := by
  refine (Try.slices_Sort_int g 0 cap zs W (holds_of_blockI hb ht) (Array.getElem?_eq_some_iff.1 hb).1 (by omega)).mono ?_
  rintro e w' ⟨rfl, n, os, rfl⟩
  refine ⟨rfl, _, heap_sortedI _ hb, ?_, by simp [Sort.putCells], grownBy_sortedI _⟩
  have h := take_putCellsI cur (srt zs) (by rw [srt_len]; exact hs)
  rw [srt_len] at h
  exact h
theorem compact_any (g cap : Nat) (zs : List Int) (cur : Array Value) (W : World) (hb : W.heap[g]? = some (.cells cur 3 (0, 0))) (ht : cur.toList.take zs.length = ints zs) (hl : zs.length ≤ 1000000) (hs : zs.length ≤ cur.size) (hcap : zs.length ≤ cap) :
    Calls Try.prog 63 #[.slice (some ⟨g, 0, none⟩) zs.length cap] W fun e w' => e = .returned (.slice (some ⟨g, 0, none⟩) (Lib.compact zs).length cap) ∧ ∃ cur', w'.heap[g]? = some (.cells cur' 3 (0, 0)) ∧ cur'.toList.take (Lib.compact zs).length = ints (Lib.compact zs) ∧ W.grownBy w' (some g) := by
  refine (Try.slices_Compact_int g 0 cap zs W (holds_of_blockI hb ht) (by omega) hcap).mono ?_
  rintro e w' ⟨rfl, q, rfl⟩
  have hcl := Lib.compact_length_le zs
  have e1 : Sort.putRow (Value.int .i64) (Sort.ahead W q) g 0 (Lib.compact zs ++ List.replicate (zs.length - (Lib.compact zs).length) 0).toArray = Sort.grow (Sort.putRow (Value.int .i64) (Sort.ahead W q) g 0 (Lib.compact zs ++ List.replicate (zs.length - (Lib.compact zs).length) 0).toArray) #[] := grow_none _
  rw [e1]
  refine ⟨rfl, _, heap_sortedI _ hb, ?_, grownBy_sortedI _⟩
  have h := take_putCellsI cur (Lib.compact zs ++ List.replicate (zs.length - (Lib.compact zs).length) 0) (by simp; omega)
  have h2 := congrArg (List.take (Lib.compact zs).length) h
  rw [List.take_take] at h2
  have e3 : min (Lib.compact zs).length (Lib.compact zs ++ List.replicate (zs.length - (Lib.compact zs).length) 0).length = (Lib.compact zs).length := by simp
  rw [e3] at h2
  rw [h2, ← List.map_take, List.take_left]
  rfl

theorem Lst.open {W : World} {v : Value} {l : List Sp} (h : Lst W v l) : ∃ p cap, v = .slice p l.length cap ∧ l.length ≤ 1000000 ∧ ∀ i (h : i < l.length), ∃ g off, p = some ⟨g, off, none⟩ ∧ g < W.heap.size ∧
    W.cell? ⟨g, off + i * 2, none⟩ = some (.int .i64 l[i].1) ∧ W.cell? ⟨g, off + i * 2 + 1, none⟩ = some (.int .i64 l[i].2) := by
  rcases h with ⟨rfl, rfl⟩ | ⟨g, off, cap, h1, h2, h3, h4⟩
  · exact ⟨none, 0, rfl, by simp, fun i h => absurd h (by simp)⟩
  · exact ⟨some ⟨g, off, none⟩, cap, h1, h3, fun i hi => ⟨g, off, rfl, h2, h4 i hi⟩⟩
theorem own_up {A W : World} {base : Nat} {e : TypeId} {size : Nat} {v : Value} {n : Nat} {xs : List Value} (h : A.ownsRow base e size v n xs) (hb : Below A.heap.size A W) : W.ownsRow base e size v n xs := by
  refine ⟨h.1, ?_⟩
  rcases h.2 with h | ⟨g, cap, cur, h1, h2, h3, h4⟩
  · exact .inl h
  · exact .inr ⟨g, cap, cur, h1, h2, heap_up hb h3, h4⟩
theorem below_own {B : Nat} {A W W' : World} {base : Nat} {e : TypeId} {size : Nat} {v : Value} {n : Nat} {xs : List Value} {o : Obj} (hb : Below B A W) (ho : W.ownsRow base e size v n xs) (hg : (W.alloc o).grownBy W' v.ownBlock) (hB : B ≤ A.heap.size) (hbs : B ≤ base) : Below B A W' := by
  refine (hb.alloc (Nat.le_trans hB hb.size) o).grown hg (Nat.le_trans hB (Nat.le_trans hb.size (by simp))) ?_
  intro g h
  rcases ho.2 with ⟨rfl, _⟩ | ⟨g', cap, cur, rfl, h1, _⟩
  · cases h
  · cases h; exact Nat.le_trans hbs h1
def upto (la lb : List Sp) (k : Nat) : List Sp := if k = 0 then [] else if k = 1 then la else la ++ lb
theorem cell_fresh2 (w : World) (x y : Value) (t : TypeId) : ∀ (j : Nat) (u : Value), [x, y][j]? = some u → (w.alloc (.cells #[x, y] t)).cell? ((⟨w.heap.size, 0, none⟩ : Addr).add j) = some u := by
  intro j u h
  have hj : j = 0 ∨ j = 1 := by
    have := (List.getElem?_eq_some_iff.1 h).1
    simp at this; omega
  rcases hj with rfl | rfl <;> (simp at h; subst h; rw [show (⟨w.heap.size, 0, none⟩ : Addr).add _ = ⟨w.heap.size, _, none⟩ from rfl, Lib.cell_of_heap (heap_alloc_new w _)]; rfl)
theorem ends_take {l : List Sp} {q : Nat} (h : q < l.length) (p : List Sp) : ends (p ++ l.take (q + 1)) = ends (p ++ l.take q) ++ (if rightS l[q] = true then [l[q].1, l[q].2] else []) := by
  rw [List.take_succ_eq_append_getElem h, ends_append, ends_append, ends_append, ← List.append_assoc]
  congr 1
  simp [ends]
set_option maxHeartbeats 4000000 in
set_option maxRecDepth 100000 in
theorem bounds_iter (la lb : List Sp) (va vb : Value) (bx gl : Nat) (w0 : World) (ha : la.length ≤ 10000) (hb : lb.length ≤ 10000)
    (hbx : w0.heap[bx]? = some (.cells #[.slice (some ⟨gl, 0, none⟩) 2 2] 42 (0, 0))) (hgl : gl < w0.heap.size) (hca : w0.cell? ⟨gl, 0, none⟩ = some va) (hcb : w0.cell? ⟨gl, 1, none⟩ = some vb) (hla : Lst w0 va la) (hlb : Lst w0 vb lb) :
    IterC Try.prog 61 #[.pointer (some ⟨bx, 0, none⟩)] (fun n : Int => #[Value.int .i64 n]) (bnd (la ++ lb)) (fun _ => False) w0 := by
  intro l J Jx m0 W hW hJ hJlt hround h0
  obtain ⟨i0, hi, hz0, hz1, hz2⟩ := info_parts infoInt
  have hbW := heap_up hW hbx
  have hgW : gl < W.heap.size := Nat.lt_of_lt_of_le hgl hW.size
  have c0 : W.cell? ⟨bx, 0, none⟩ = some (.slice (some ⟨gl, 0, none⟩) 2 2) := by rw [Lib.cell_of_heap hbW]; rfl
  have HLS : Hid (∀ k, k < 2 → ∃ vk lk, W.cell? ⟨gl, k, none⟩ = some vk ∧ Lst W vk lk ∧ upto la lb (k + 1) = upto la lb k ++ lk ∧ (upto la lb k).length ≤ 10000 ∧ lk.length ≤ 10000) := Lib.hid (by
    intro k hk
    have : k = 0 ∨ k = 1 := by omega
    rcases this with rfl | rfl
    · exact ⟨va, la, by rw [cell_up hW hgl]; exact hca, hla.up hW, by simp [upto], by simp [upto], ha⟩
    · exact ⟨vb, lb, by rw [cell_up hW hgl]; exact hcb, hlb.up hW, by simp [upto], by simpa [upto] using ha, hb⟩)
  have HUP : Hid (upto la lb 2 = la ++ lb) := Lib.hid rfl
  have HR := Lib.hid hround; have HJ := Lib.hid @hJ; have HJL := Lib.hid hJlt; have H0 := Lib.hid h0
  clear hround hJ hJlt h0 hla hlb hca hcb hbx hW hgl
  refine callsIn_of_wp Try.func61 rfl trivial ?_ rfl
  simp only [Try.ntmps61, List.size_toArray, List.length_cons, List.length_nil, Nat.reduceAdd, Nat.reduceSub, Array.replicate_succ, Array.replicate_zero, List.push_toArray, List.append_toArray, List.nil_append, List.cons_append]
  gi_wp2_with fail
  gi_loopw [3, 12] (fun v i wr => ∃ k : Nat, k ≤ 2 ∧ i = .int .i64 (k : Int) ∧ Hid (wr.ownsRow W.heap.size 3 1 v (ends (upto la lb k)).length (ints (ends (upto la lb k)))) ∧ Hid (Below W.heap.size W wr)) (fun _ i _ => 2 - (intOf i).toNat)
  case atStart => exact ⟨0, by omega, rfl, Lib.hid (World.ownsRow_nil _ _ _ _), Lib.hid (Below.refl _ _)⟩
  case round =>
    obtain ⟨k, hk, rfl, HOWN, HB⟩ := hrel
    by_cases hlt : k < 2
    · have hlt' : (k : Int) < 2 := by omega
      obtain ⟨vk, lk, hcv, hlk, hup, hul, hlkl⟩ := HLS.out k hlt
      obtain ⟨p, cap, rfl, hlen, hcell⟩ := hlk.open
      have cv : wr.cell? ⟨gl, k, none⟩ = some (.slice p lk.length cap) := by rw [cell_up HB.out hgW]; exact hcv
      have HUK := Lib.hid hup; have HCELL := Lib.hid hcell
      clear hcv hlk hup hcell
      gi_wp2_with fail
      obtain ⟨wo, hwo⟩ : ∃ wo, wo = wr := ⟨_, rfl⟩
      subst hwo
      gi_loopw [3, 18] (fun v i wr => ∃ q : Nat, q ≤ lk.length ∧ i = .int .i64 (q : Int) ∧ Hid (wr.ownsRow W.heap.size 3 1 v (ends (upto la lb k ++ lk.take q)).length (ints (ends (upto la lb k ++ lk.take q)))) ∧ Hid (Below W.heap.size W wr)) (fun _ i _ => lk.length - (intOf i).toNat)
      case atStart => exact ⟨0, by omega, rfl, Lib.hid (by simpa using HOWN.out), HB⟩
      case round =>
        obtain ⟨q, hq, rfl, HO, HBI⟩ := hrel
        by_cases hlq : q < lk.length
        · have hlq' : (q : Int) < (lk.length : Int) := by omega
          obtain ⟨g, off, rfl, hg, hc1, hc2⟩ := HCELL.out q hlq
          have d1 : wr.cell? ⟨g, off + q * 2, none⟩ = some (.int .i64 lk[q].1) := by rw [cell_up HBI.out hg]; exact hc1
          have d2 : wr.cell? ⟨g, off + q * 2 + 1, none⟩ = some (.int .i64 lk[q].2) := by rw [cell_up HBI.out hg]; exact hc2
          have hel := ends_len (upto la lb k ++ lk.take q)
          have hel2 : (ends (upto la lb k ++ lk.take q)).length ≤ 40000 := by simp at hel; omega
          clear hc1 hc2 hel
          gi_wp2_with fail
          refine ⟨trivial, rfl, ?_⟩
          refine (callsIn_wide.2 (Right_any _ _ _)).mono ?_
          rintro e w2 ⟨rfl, hb2⟩
          have HB2 := Lib.hid ((HBI.out.alloc HBI.out.size _).trans (hb2.mono (by have := HBI.out.size; simp; omega)))
          have HO2 := Lib.hid (own_up (HO.out.alloc _) hb2)
          have kbx := heap_up hb2 (heap_alloc_new wr (.cells #[.int .i64 lk[q].1, .int .i64 lk[q].2] 33))
          have e1 : w2.cell? ⟨wr.heap.size, 0, none⟩ = some (.int .i64 lk[q].1) := by rw [Lib.cell_of_heap kbx]; rfl
          have e2 : w2.cell? ⟨wr.heap.size, 1, none⟩ = some (.int .i64 lk[q].2) := by rw [Lib.cell_of_heap kbx]; rfl
          have HET := Lib.hid (ends_take hlq (upto la lb k))
          clear hb2 kbx d1 d2
          have hrr : rightS (lk[q].1, lk[q].2) = true ∨ rightS (lk[q].1, lk[q].2) = false := by cases rightS (lk[q].1, lk[q].2) <;> simp
          rcases hrr with hr | hr
          · have HE2 : Hid (ends (upto la lb k ++ lk.take (q + 1)) = ends (upto la lb k ++ lk.take q) ++ [lk[q].1, lk[q].2]) := Lib.hid (by rw [HET.out, if_pos hr])
            rw [hr]
            clear hr
            gi_wp2_with (first | (gi_at_builtin; refine wpListIn_append_own _ rfl _ _ 40 rfl W.heap.size 3 i0 (.int .i64 0) 1 8 Try.underlying40 hi hz0 hz1 hz2 rfl (by decide) _ _ _ rfl (HO2.out.alloc _) ⟨w2.heap.size, 0, none⟩ 2 2 [.int .i64 lk[q].1, .int .i64 lk[q].2] rfl rfl (cell_fresh2 w2 _ _ _) (by simp [Value.oneCell']) (by unfold maxLen; omega) (by omega) (by have := HB2.out.size; simp; omega) ?_; intro v' w3 hown' hgrow hnn; have HO3 := Lib.hid hown'; have HG3 := Lib.hid hgrow; clear hown' hgrow hnn) | fail)
            go_roundw
            case rel => exact ⟨q + 1, by omega, by go_num, Lib.hid (by rw [HE2.out]; simpa [ints] using HO3.out), Lib.hid (below_own HB2.out HO2.out HG3.out (Nat.le_refl _) (Nat.le_refl _))⟩
            case measure => simp [intOf]; omega
          · have HE2 : Hid (ends (upto la lb k ++ lk.take (q + 1)) = ends (upto la lb k ++ lk.take q)) := Lib.hid (by rw [HET.out, if_neg (by rw [hr]; decide), List.append_nil])
            rw [hr]
            clear hr
            gi_wp2_with fail
            go_roundw
            case rel => exact ⟨q + 1, by omega, by go_num, Lib.hid (by rw [HE2.out]; exact HO2.out), HB2⟩
            case measure => simp [intOf]; omega
        · have hge : (lk.length : Int) ≤ (q : Int) := by omega
          have HO3 : Hid (wr.ownsRow W.heap.size 3 1 u3 (ends (upto la lb (k + 1))).length (ints (ends (upto la lb (k + 1))))) := Lib.hid (by have := HO.out; rw [List.take_of_length_le (by omega), ← HUK.out] at this; exact this)
          gi_wp2_with fail
          go_roundw
          case rel => exact ⟨k + 1, by omega, by go_num, HO3, HBI⟩
          case measure => simp [intOf]; omega
    · have hge : (2 : Int) ≤ (k : Int) := by omega
      have hk2 : k = 2 := by omega
      have HO := HOWN.out
      rw [hk2, HUP.out] at HO
      have hen := ends_len (la ++ lb)
      have hen2 : (ends (la ++ lb)).length ≤ 40000 := by simp at hen; omega
      rcases HO.2 with ⟨rfl, hn0⟩ | ⟨g, cap, cur, rfl, hg, hgh, hnc, hcm, hcs, hct⟩
      · have he0 : ends (la ++ lb) = [] := List.eq_nil_of_length_eq_zero hn0
        have HBN : Hid (bnd (la ++ lb) = []) := Lib.hid (List.eq_nil_of_length_eq_zero (by have := bnd_len (la ++ lb); rw [he0] at this; simpa using this))
        have HJ1 := Lib.hid (HJ.out _ _ _ _ H0.out (Fr.of_new HB.out _))
        have HF1 := Lib.hid (Fr.of_new HB.out (fun b => m0 b ∨ False))
        clear HO hn0 he0 hen
        gi_wp2_with fail
        refine ⟨trivial, rfl, ?_⟩
        refine (callsIn_wide.2 (Try.slices_Sort_int_none _ _ _)).mono ?_
        rintro e w2 ⟨rfl, rfl⟩
        gi_wp2_with fail
        refine ⟨trivial, rfl, ?_⟩
        refine (callsIn_wide.2 (Try.slices_Compact_int_empty _ _ _)).mono ?_
        rintro e w2 ⟨rfl, rfl⟩
        gi_wp2_with fail
        refine wpIn_loop_rounds 1 ?_
        rw [roundsIn_succ]
        gi_wp2_with fail
        go_end0
        exact ⟨⟨_, rfl⟩, HF1.out, .inl ⟨m0, by rw [HBN.out]; exact HJ1.out⟩⟩
      · rw [Nat.mul_one] at hct
        have hcs' : cur.size = cap := by omega
        gi_wp2_with fail
        refine ⟨trivial, rfl, ?_⟩
        refine (callsIn_wide.2 (sort_any g cap (ends (la ++ lb)) cur _ hgh hct (by omega) (by omega))).mono ?_
        rintro e w2 ⟨rfl, cur2, hgh2, hct2, hcs2, hgr2⟩
        have hb2 : Below W.heap.size W w2 := HB.out.grown hgr2 HB.out.size (fun k h => by cases h; exact hg)
        gi_wp2_with fail
        refine ⟨trivial, rfl, ?_⟩
        rw [← srt_len (ends (la ++ lb))] at hct2 ⊢
        refine (callsIn_wide.2 (compact_any g cap (srt (ends (la ++ lb))) cur2 _ hgh2 hct2 (by rw [srt_len]; omega) (by rw [srt_len]; omega) (by rw [srt_len]; omega))).mono ?_
        rintro e w3 ⟨rfl, cur3, hgh3, hct3, hgr3⟩
        have hb3 : Below W.heap.size W w3 := hb2.grown hgr3 hb2.size (fun k h => by cases h; exact hg)
        have HJ1 := Lib.hid (HJ.out _ _ _ _ H0.out (Fr.of_new hb3 _))
        have HF1 := Lib.hid (Fr.of_new hb3 (fun b => m0 b ∨ False))
        have hng : ¬ m0 g := fun h => by have := (HJL.out _ _ _ _ H0.out h).1; omega
        obtain ⟨B, hB⟩ : ∃ B, bnd (la ++ lb) = B := ⟨_, rfl⟩
        have hB' : Lib.compact (srt (ends (la ++ lb))) = B := hB
        have hBl : B.length ≤ 40000 := by rw [← hB]; exact Nat.le_trans (bnd_len _) hen2
        rw [hB] at HR
        have HBE := Lib.hid hB
        rw [hB'] at hct3 ⊢
        have HROW := Lib.hid (show ∀ j (hj : j < B.length), cur3[j]? = some (.int .i64 B[j]) from fun j hj => by
          have e := congrArg (fun l => l[j]?) hct3
          simp only [List.getElem?_take, if_pos hj] at e
          rw [Array.getElem?_toList] at e
          simpa [ints, hj] using e)
        have HG3 := Lib.hid hgh3
        clear hgr2 hb2 hgh2 hct2 hcs2 hgh3 hct3 hgr3 hb3 HO hen hen2 hgh hct hcs hcs' hB hB' hnc hcm
        gi_wp2_with fail
        gi_loopw [38] (fun i wr => ∃ (q : Nat) (m : Nat → Prop), q ≤ B.length ∧ i = .int .i64 (q : Int) ∧ Hid (J (B.take q) m wr) ∧ Hid (wr.heap[g]? = some (.cells cur3 3 (0, 0))) ∧ ¬ m g ∧ Hid (Fr (fun b => m0 b ∨ False) W wr) ∧ Hid (∀ b, m b → m0 b ∨ W.heap.size ≤ b)) (fun i _ => B.length - (intOf i).toNat)
        case atStart => exact ⟨0, m0, by omega, rfl, HJ1, HG3, hng, HF1, Lib.hid (fun _ h => .inl h)⟩
        case round =>
          obtain ⟨q, m, hq, rfl, HJQ, HGQ, hngq, HFQ, HMQ⟩ := hrel
          by_cases hlq : q < B.length
          · have hlq' : (q : Int) < (B.length : Int) := by omega
            have cq : wr.cell? ⟨g, q, none⟩ = some (.int .i64 B[q]) := by rw [Lib.cell_of_heap HGQ.out]; exact HROW.out q hlq
            obtain ⟨fn, tmps, assign, body, hy, hR⟩ := HR.out (B.take q) B[q] (B.drop (q + 1)) m wr (by rw [← List.drop_eq_getElem_cons hlq, List.take_append_drop]) HJQ.out
            have HR2 := Lib.hid hR
            clear hR
            gi_wp2_with fail
            refine ⟨rfl, ?_⟩
            refine HR2.out.mono ?_
            rintro e W3 (⟨rfl, m', hJ3, hf3, hg3⟩ | ⟨rfl, hJx3, hf3⟩)
            · have hgt : g < wr.heap.size := (Array.getElem?_eq_some_iff.1 HGQ.out).1
              have hng3 : ¬ m' g := fun h => (hg3 g h).elim hngq (fun h => by omega)
              have HX := Lib.hid (HFQ.out.trans' hf3 (fun b hb => (HMQ.out b hb).elim (fun h => .inl (.inl h)) .inr))
              have HG := Lib.hid (show ∀ b, m' b → m0 b ∨ W.heap.size ≤ b from fun b hb => (hg3 b hb).elim (HMQ.out b) (fun h => .inr (Nat.le_trans HFQ.out.size h)))
              have HGQ3 := Lib.hid (hf3.heap HGQ.out hngq)
              have HJ3 : Hid (J (B.take (q + 1)) m' W3) := Lib.hid (by rw [List.take_succ_eq_append_getElem hlq]; exact hJ3)
              clear hJ3 hf3 hg3 hy cq
              gi_wp2_with fail
              go_roundw
              case rel => exact ⟨q + 1, m', by omega, by go_num, HJ3, HGQ3, hng3, HX, HG⟩
              case measure => simp [intOf]; omega
            · have HX := Lib.hid (HFQ.out.trans' hf3 (fun b hb => (HMQ.out b hb).elim (fun h => .inl (.inl h)) .inr))
              have HJX := Lib.hid hJx3
              clear hJx3 hf3 hy cq
              gi_wp2_with fail
              refine bodyPost_ret (results_none rfl _ _ _) rfl ?_
              exact ⟨⟨_, rfl⟩, HX.out, .inr ⟨_, HJX.out⟩⟩
          · have hge : (B.length : Int) ≤ (q : Int) := by omega
            have HJ4 : Hid (J B m wr) := Lib.hid (by have := HJQ.out; rwa [List.take_of_length_le (by omega)] at this)
            gi_wp2_with fail
            go_end0
            exact ⟨⟨_, rfl⟩, HFQ.out, .inl ⟨m, by rw [HBE.out]; exact HJ4.out⟩⟩
end Go.Proofs.Ytodkppeikpaclaa
