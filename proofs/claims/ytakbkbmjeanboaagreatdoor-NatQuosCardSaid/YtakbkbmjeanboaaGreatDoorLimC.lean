/- number of package nat. Each theorem names its conditions. -/
import Derived.Test.YtakbkbmjeanboaaGreatDoorLimB
import Derived.Test.YtakbkbmjeanboaaGreatDoorShelf
import Derived.Lib.ConvBytes
namespace Go.Proofs.YtakbkbmjeanboaaGreatDoor
open Go.RowKit Go.Shelf
open Dgt
set_option linter.unusedVariables false

/-- the string that writes a number, without zeros in front -/
def encL (n : Nat) : List UInt8 := (digs 256 n).reverse.map UInt8.ofNat
def encS (n : Nat) : ByteArray := ⟨(encL n).toArray⟩
theorem revB_encS (n : Nat) : revB (encS n) = digs 256 n := by
  have ho := okB_digs (B := 256) (by decide) n
  unfold revB encS encL
  simp only [List.map_map, List.map_reverse, List.reverse_reverse]
  have : ∀ x ∈ digs 256 n, (UInt8.toNat ∘ UInt8.ofNat) x = x := fun x hx => by
    have := ho x hx
    simp [Nat.mod_eq_of_lt this]
  rw [List.map_congr_left this, List.map_id']
theorem numS_encS (n : Nat) : numS (encS n) = n := by rw [numS, revB_encS, valB_digs (by decide)]
theorem encS_size (n : Nat) : (encS n).size = (digs 256 n).length := by rw [← revB_len, revB_encS]
theorem bytes_of_revB (s : ByteArray) : s.data.toList = (revB s).reverse.map UInt8.ofNat := by
  unfold revB
  rw [List.reverse_reverse, List.map_map]
  have : ∀ x ∈ s.data.toList, (UInt8.ofNat ∘ UInt8.toNat) x = x := fun x _ => by simp
  rw [List.map_congr_left this, List.map_id']
theorem ext_revB {s t : ByteArray} (h : revB s = revB t) : s = t := by
  have : s.data.toList = t.data.toList := by rw [bytes_of_revB s, bytes_of_revB t, h]
  cases s; cases t
  simp only at this
  congr 1
  exact Array.ext' this
theorem encS_inj {m n : Nat} (h : encS m = encS n) : m = n := by rw [← numS_encS m, h, numS_encS]
/-- zeros in front left out -/
theorem trimLeft_enc (l : List Nat) (ho : okB 256 l) : Lib.trimLeftB (l.reverse.map UInt8.ofNat) 0 = encL (valB 256 l) := by
  induction hn : l.length generalizing l with
  | zero =>
    have : l = [] := List.eq_nil_of_length_eq_zero hn
    subst this
    simp [Lib.trimLeftB, encL, valB, digs_zero]
  | succ n ih =>
    have hne : l ≠ [] := by rintro rfl; simp at hn
    obtain ⟨l', x, rfl⟩ : ∃ l' x, l = l' ++ [x] := ⟨l.dropLast, l.getLast hne, (List.dropLast_concat_getLast hne).symm⟩
    have ho' : okB 256 l' := fun y hy => ho y (by simp [hy])
    have hx : x < 256 := ho x (by simp)
    by_cases h0 : x = 0
    · subst h0
      have := ih l' ho' (by simpa using hn)
      rw [valB_snoc, Nat.mul_zero, Nat.add_zero, ← this]
      simp [Lib.trimLeftB]
    · have hz : nzL (l' ++ [x]) := fun _ => by simpa using h0
      rw [encL, digs_valB (by decide) ho hz]
      have : (UInt8.ofNat x == 0) = false := by
        rw [beq_eq_false_iff_ne]
        intro h
        have := congrArg UInt8.toNat h
        rw [UInt8.toNat_ofNat', Nat.mod_eq_of_lt hx] at this
        exact h0 this
      simp [Lib.trimLeftB, this]
theorem conv_bytes (W : World) (b : Nat) (l : List UInt8) (len cap : Nat) (hl : l.length = len) (hc : ∀ j (hj : j < l.length), W.cell? ⟨b, j, none⟩ = some (.int .u8 (l[j].toNat : Int))) :
    (convert 22 9 (.slice (some ⟨b, 0, none⟩) len cap)).run Tryz.prog W = .ok (.string ⟨l.toArray⟩) W := by
  subst hl
  refine run_convert_bytes_back W _ _ 5 ⟨b, 0, none⟩ cap l Tryz.underlying22 Tryz.underlying5 Tryz.underlying9 fun j hj => ?_
  rw [← hc j hj]
  cases j <;> simp [Addr.add]
/-- one byte more, from the end -/
theorem put_step {R : List Nat} {k : Nat} (hk : k < R.length) : (List.replicate (R.length - k) 0 ++ (R.take k).reverse).set (R.length - 1 - k) R[k] = List.replicate (R.length - (k + 1)) 0 ++ (R.take (k + 1)).reverse := by
  have e1 : R.length - k = (R.length - (k + 1)) + 1 := by omega
  rw [e1, List.replicate_succ', List.append_assoc, List.set_append_right _ _ (by simp; omega)]
  have e2 : R.length - 1 - k - (List.replicate (R.length - (k + 1)) 0).length = 0 := by simp; omega
  have e3 : (R.take (k + 1)).reverse = R[k] :: (R.take k).reverse := by rw [List.take_succ_eq_append_getElem hk, List.reverse_append]; rfl
  rw [e2, e3]
  simp
/-- a byte of a digit -/
theorem byte_of {l : List Nat} (ho : okB 4294967296 l) {k : Nat} (hk : k / 4 < l.length) : l[k / 4] / 2 ^ (8 * (k % 4)) % 256 = valB 4294967296 l / 256 ^ k % 256 := by
  have h := get_of_val ho hk
  have hm : k % 4 < 4 := Nat.mod_lt _ (by decide)
  have ek : (256 : Nat) ^ k = 4294967296 ^ (k / 4) * 256 ^ (k % 4) := by
    rw [show (4294967296 : Nat) = 256 ^ 4 by decide, ← Nat.pow_mul, ← Nat.pow_add]; congr 1; omega
  have p8 : (2 : Nat) ^ (8 * (k % 4)) = 256 ^ (k % 4) := by rw [Nat.pow_mul]
  rw [← h, ek, ← Nat.div_div_eq_div_mul, p8]
  obtain ⟨N, hN⟩ : ∃ N, valB 4294967296 l / 4294967296 ^ (k / 4) = N := ⟨_, rfl⟩
  rw [hN]
  have e : (4294967296 : Nat) = 256 ^ (k % 4) * 256 ^ (4 - k % 4) := by
    rw [← Nat.pow_add, show k % 4 + (4 - k % 4) = 4 by omega]
  rw [e, Nat.mod_mul_right_div_self, Nat.mod_mod_of_dvd]
  exact ⟨256 ^ (4 - k % 4 - 1), by rw [← Nat.pow_succ']; congr 1; omega⟩
theorem cell_up2 {A W : World} {g k B : Nat} (hb : Below B A W) (h : g < A.heap.size) (hB : g < B) : W.cell? ⟨g, k, none⟩ = A.cell? ⟨g, k, none⟩ := World.cell?_of_block (hb.block g hB)
set_option maxHeartbeats 4000000 in
set_option maxRecDepth 100000 in
theorem number_any (v : Value) (l : List Nat) (w : World) (hl : Lim w v l) (hlen : l.length ≤ 1000000000) :
    Calls Tryz.prog 48 #[v] w fun e w' => e = .returned (.string (encS (valB 4294967296 l))) ∧ Below w.heap.size w w' := by
  obtain ⟨N, hN⟩ : ∃ N, valB 4294967296 l = N := ⟨_, rfl⟩
  have HT := Lib.hid (show trimL 4294967296 l = digs 4294967296 N by rw [trimL, hN])
  have htl := trimL_len (B := 4294967296) (by decide) hl.ok
  rw [HT.out] at htl
  have HN := Lib.hid hN
  have HL := Lib.hid hl
  clear hN hl
  go_enter Tryz.func48, Tryz.ntmps48
  go_wp2_with fail
  refine (trim_any _ _ _ HL.out).mono ?_
  rintro e w1 ⟨v', rfl, hv, rfl⟩
  rw [HT.out] at hv
  obtain ⟨p, n, cap, rfl, hn, hc, hcm⟩ := hv.open_
  have HV := Lib.hid hv
  have hn1 : n ≤ 1000000000 := by rw [hn]; exact Nat.le_trans htl hlen
  have HNN := Lib.hid hn
  clear hv hn htl hlen
  obtain ⟨n4, hn4⟩ : ∃ n4, 4 * n = n4 := ⟨_, rfl⟩
  have hmk := mk_bytes n4 (4 * (n : Int)) (by omega) (by omega)
  have hb4 : n4 ≤ 4000000000 := by omega
  have H4 := Lib.hid hn4
  clear hn4
  go_wp2_with fail
  clear hmk
  have HB := Lib.hid ((Below.refl w.heap.size w).alloc (Nat.le_refl _) (.cells (cellsK .u8 (List.replicate n4 0)) 5))
  have HK := Lib.hid (heap_alloc_new w (.cells (cellsK .u8 (List.replicate n4 0)) 5))
  obtain ⟨w0, hw0⟩ : ∃ w0, w.alloc (.cells (cellsK .u8 (List.replicate n4 0)) 5) = w0 := ⟨_, rfl⟩
  rw [hw0] at HB HK ⊢
  obtain ⟨g, hg⟩ : ∃ g, w.heap.size = g := ⟨_, rfl⟩
  have hgw : w.heap.size ≤ g := Nat.le_of_eq hg
  rw [hg] at HK ⊢
  have HG := Lib.hid hg
  clear hw0 hg
  obtain ⟨R, hR⟩ : ∃ R, fixd 256 n4 N = R := ⟨_, rfl⟩
  have hRl : R.length = n4 := by rw [← hR, fixd_len]
  have HRL := Lib.hid hRl
  have HRR := Lib.hid hR
  clear hR hRl
  go_loopw [13, 4] (fun i _ wr => ∃ k : Nat, k ≤ n4 ∧ i = .int .i64 (k : Int) ∧ Hid (wr.heap[g]? = some (.cells (cellsK .u8 (List.replicate (n4 - k) 0 ++ (R.take k).reverse)) 5 (0, 0))) ∧ Hid (Below w.heap.size w wr)) (fun i _ _ => n4 - (intOf i).toNat)
  case atStart => exact ⟨0, by omega, rfl, Lib.hid (by rw [Nat.sub_zero, List.take_zero, List.reverse_nil, List.append_nil]; exact HK.out), HB⟩
  case round =>
    obtain ⟨k, hk, rfl, HC, HBW⟩ := hrel
    by_cases hlt : k < n4
    · have hlt' : (k : Int) < (n4 : Int) := by omega
      have h4n := H4.out
      obtain ⟨j, hj⟩ : ∃ j, k / 4 = j := ⟨_, rfl⟩
      obtain ⟨m, hm⟩ : ∃ m, k % 4 = m := ⟨_, rfl⟩
      have hjn : j < n := by omega
      have hjl : j < (digs 4294967296 N).length := by rw [← HNN.out]; exact hjn
      have hm4 : m < 4 := by omega
      obtain ⟨g', off, hp, hg', hcell⟩ := HV.out.cell hjl
      subst hp
      have hkR : k < R.length := by rw [HRL.out]; exact hlt
      have hby : (digs 4294967296 N)[j] / 2 ^ (8 * m) % 256 = R[k] := by
        have h := byte_of (l := digs 4294967296 N) (okB_digs (by decide) _) (k := k) (by rw [hj]; exact hjl)
        simp only [hj, hm] at h
        rw [h, valB_digs (by decide)]
        have h2 := fixd_get 256 n4 N k (by rw [fixd_len]; exact hlt)
        simp only [HRR.out] at h2
        exact h2.symm
      have hput := put_step hkR
      rw [HRL.out] at hput
      obtain ⟨x, hx⟩ : ∃ x, (digs 4294967296 N)[j] = x := ⟨_, rfl⟩
      have hxl : x < 4294967296 := by rw [← hx]; exact (okB_digs (by decide) _).get _
      obtain ⟨y, hy⟩ : ∃ y, R[k] = y := ⟨_, rfl⟩
      rw [hx] at hcell hby
      rw [hy] at hby hput
      have hyl : y < 256 := by rw [← hby]; exact Nat.mod_lt _ (by decide)
      have hc1 : wr.cell? ⟨g', off + j, none⟩ = some (.int .u32 (x : Int)) := by rw [cell_up2 HBW.out hg' hg']; exact hcell
      obtain ⟨i, hi⟩ : ∃ i, n4 - 1 - k = i := ⟨_, rfl⟩
      have hin : i < n4 := by omega
      rw [hi] at hput
      have hfr : wr.frozen? ⟨g, i, none⟩ = false := Lib.frozen_of_heap HC.out _
      have hlen4 : (List.replicate (n4 - k) 0 ++ (R.take k).reverse).length = n4 := by simp [HRL.out]; omega
      obtain ⟨z, hz⟩ : ∃ z, wr.cell? ⟨g, i, none⟩ = some z := by rw [Lib.cell_of_heap HC.out]; exact ⟨_, cellsK_get (by rw [hlen4]; exact hin)⟩
      obtain ⟨sh, hsh⟩ : ∃ sh, 8 * m = sh := ⟨_, rfl⟩
      rw [hsh] at hby
      have q1 : (k : Int) / 4 = (j : Int) := by omega
      have q2 : (n4 : Int) - 1 - (k : Int) = (i : Int) := by omega
      have q4 : (k : Int) % 4 = (m : Int) := by omega
      have q5 : 8 * (m : Int) = (sh : Int) := by omega
      have hsh2 : sh ≤ 32 := by omega
      have q6 : (x : Int) / 2 ^ sh % 256 = (y : Int) := by rw [← hby]; simp
      have HP := Lib.hid hput; have HI := Lib.hid hi
      clear hx hy hby hput hi hj hm hsh h4n hlen4
      go_wp2_with fail
      go_roundw
      case rel => exact ⟨k + 1, by omega, by go_num, Lib.hid (by rw [← HP.out]; exact set_block HC.out), Lib.hid (HBW.out.setCell (p := ⟨g, i, none⟩) hgw _)⟩
      case measure => simp [intOf]; omega
    · have hge : (n4 : Int) ≤ (k : Int) := by omega
      obtain rfl : k = n4 := by omega
      have HC2 : Hid (wr.heap[g]? = some (.cells (cellsK .u8 R.reverse) 5 (0, 0))) := Lib.hid (by
        have := HC.out
        rwa [Nat.sub_self, ← HRL.out, List.take_length, List.replicate_zero, List.nil_append] at this)
      have hcv := conv_bytes wr g (R.reverse.map UInt8.ofNat) k k (by rw [List.length_map, List.length_reverse, HRL.out]) (fun j hj => by
        rw [Lib.cell_of_heap HC2.out, cellsK_get (by simpa using hj)]
        have : R.reverse[j]'(by simpa using hj) < 256 := by
          have ho : okB 256 R := by rw [← HRR.out]; exact fixd_ok (by decide) _ _
          exact ho _ (List.mem_reverse.1 (List.getElem_mem _))
        simp only [List.getElem_map, UInt8.toNat_ofNat', Nat.mod_eq_of_lt this])
      go_wp2_with fail
      refine (Tryz.strings_TrimLeft_one _ _ (by decide) _).mono ?_
      rintro e w2 ⟨rfl, rfl⟩
      go_wp2_with fail
      go_ret
      refine ⟨?_, HG.out ▸ HBW.out⟩
      have ho : okB 256 R := by rw [← HRR.out]; exact fixd_ok (by decide) _ _
      have hv : valB 256 R = N := by
        rw [← HRR.out]
        apply valB_fixd
        have h1 := digs_lt (B := 4294967296) (by decide) N
        rw [← HNN.out, show (4294967296 : Nat) = 256 ^ 4 by decide, ← Nat.pow_mul, H4.out] at h1
        exact h1
      show Ending.returned (.string ⟨(Lib.trimLeftB (R.map UInt8.ofNat).reverse 0).toArray⟩) = _
      rw [← List.map_reverse, trimLeft_enc R ho, hv, HN.out]; rfl
end Go.Proofs.YtakbkbmjeanboaaGreatDoor
