/- Contracts of the text functions of package date, first part: digits, short, write, take, and strings.Builder's WriteString; each theorem names its conditions. -/
import Derived.Test.YtfoifnhakmfefaaDayB
import Derived.Test.YtfoifnhakmfefaaTxt
import Derived.Test.YtfoifnhakmfefaaShelf
import Derived.Test.YtfoifnhakmfefaaRange
import Derived.ShutString
import Derived.BigQuiet
namespace Go.Proofs.Ytfoifnhakmfefaa
open Go.RowKit
open Cal Txt
set_option linter.unusedVariables false

theorem conv_bytes (W : World) (b : Nat) (l : List UInt8) (len cap : Nat) (hl : l.length = len) (hc : ∀ j (hj : j < l.length), W.cell? ⟨b, j, none⟩ = some (.int .u8 (l[j].toNat : Int))) :
    (convert 48 9 (.slice (some ⟨b, 0, none⟩) len cap)).run Try.prog W = .ok (.string ⟨l.toArray⟩) W := by
  subst hl
  refine run_convert_bytes_back W _ _ 5 ⟨b, 0, none⟩ cap l Try.underlying48 Try.underlying5 Try.underlying9 fun j hj => ?_
  rw [← hc j hj]
  cases j <;> simp [Addr.add]

theorem dg_int (n : Int) : ((dg n).toNat : Int) = 48 + n % 10 := by
  rw [dg_toNat]; omega
theorem cell_new4 (w : World) (t : TypeId) (a b c d : Value) (j : Nat) : (w.alloc (.cells #[a, b, c, d] t)).cell? ⟨w.heap.size, j, none⟩ = #[a, b, c, d][j]? := by
  rw [cell_of_row _ _ _ _ _ _ (heap_alloc_new w _)]
theorem cell_new2 (w : World) (t : TypeId) (a b : Value) (j : Nat) : (w.alloc (.cells #[a, b] t)).cell? ⟨w.heap.size, j, none⟩ = #[a, b][j]? := by
  rw [cell_of_row _ _ _ _ _ _ (heap_alloc_new w _)]

set_option maxHeartbeats 1000000 in
theorem digits4_any (n : Int) (h0 : 0 ≤ n) (h1 : n ≤ 9999) (w : World) :
    Calls Try.prog 58 #[.int .i64 n, .int .i64 4] w (Gives w (.string ⟨(dig4 n).toArray⟩)) := by
  have hmk : ∀ w, (Instr.makeSlice 48 (.int .i64 4) (.int .i64 4)).run Try.prog w = .ok (.slice (some ⟨w.heap.size, 0, none⟩) 4 4) (w.alloc (.cells #[.int .u8 0, .int .u8 0, .int .u8 0, .int .u8 0] 5)) := fun _ => by kernel_rfl
  go_enter Try.func58, Try.ntmps58
  go_wp2_with fail
  refine wp_loop_rounds 5 ?_
  rw [rounds_succ]
  go_wp2_with fail
  rw [rounds_succ]
  go_wp2_with fail
  rw [rounds_succ]
  go_wp2_with fail
  rw [rounds_succ]
  go_wp2_with fail
  rw [rounds_succ]
  go_wp2_with fail
  rw [conv_bytes _ _ (dig4 n) 4 4 rfl (fun j hj => by
    have hj : j < 4 := hj
    rw [cell_new4]
    have : j = 0 ∨ j = 1 ∨ j = 2 ∨ j = 3 := by omega
    rcases this with rfl | rfl | rfl | rfl <;> simp [dig4, dg_int])]
  go_wp2_with fail
  go_ret
  exact ⟨rfl, (Below.refl _ _).alloc (Nat.le_refl _) _⟩

set_option maxHeartbeats 1000000 in
theorem digits2_any (n : Int) (h0 : 0 ≤ n) (h1 : n ≤ 9999) (w : World) :
    Calls Try.prog 58 #[.int .i64 n, .int .i64 2] w (Gives w (.string ⟨(dig2 n).toArray⟩)) := by
  have hmk : ∀ w, (Instr.makeSlice 48 (.int .i64 2) (.int .i64 2)).run Try.prog w = .ok (.slice (some ⟨w.heap.size, 0, none⟩) 2 2) (w.alloc (.cells #[.int .u8 0, .int .u8 0] 5)) := fun _ => by kernel_rfl
  go_enter Try.func58, Try.ntmps58
  go_wp2_with fail
  refine wp_loop_rounds 3 ?_
  rw [rounds_succ]
  go_wp2_with fail
  rw [rounds_succ]
  go_wp2_with fail
  rw [rounds_succ]
  go_wp2_with fail
  rw [conv_bytes _ _ (dig2 n) 2 2 rfl (fun j hj => by
    have hj : j < 2 := hj
    rw [cell_new2]
    have : j = 0 ∨ j = 1 := by omega
    rcases this with rfl | rfl <;> simp [dig2, dg_int])]
  go_wp2_with fail
  go_ret
  exact ⟨rfl, (Below.refl _ _).alloc (Nat.le_refl _) _⟩

theorem trim_dig2 (n : Int) (h0 : 0 ≤ n) (h1 : n ≤ 99) : Lib.trimPrefix (dig2 n) [48] = dig1 n := by
  have hd := dg_toNat (n / 10)
  unfold Lib.trimPrefix Lib.hasPrefix dig1 dig2
  by_cases h : n < 10
  · have e : dg (n / 10) = 48 := by
      apply UInt8.toNat_inj.1; rw [hd]
      have : n / 10 = 0 := by omega
      rw [this]; rfl
    simp [e, h]
  · have e : (48 == dg (n / 10)) = false := by
      rw [beq_eq_false_iff_ne]
      intro he
      have := congrArg UInt8.toNat he
      rw [hd] at this
      have h48 : (48 : UInt8).toNat = 48 := rfl
      omega
    simp [e, h, List.isPrefixOf]

set_option maxHeartbeats 400000 in
theorem short_any (n : Int) (h0 : 0 ≤ n) (h1 : n ≤ 99) (w : World) :
    Calls Try.prog 59 #[.int .i64 n] w (Gives w (.string ⟨(dig1 n).toArray⟩)) := by
  have ht := Lib.hid (trim_dig2 n h0 h1)
  go_enter Try.func59, Try.ntmps59
  go_wp2_with fail
  refine (digits2_any _ h0 (by omega) _).mono ?_
  rintro e w1 ⟨rfl, hb⟩
  go_wp2_with fail
  refine (Try.strings_TrimPrefix _ _ _).mono ?_
  rintro e w2 ⟨rfl, rfl⟩
  go_wp2_with fail
  go_ret
  refine ⟨?_, hb⟩
  rw [← ht.out]
  rfl

set_option maxHeartbeats 1000000 in
theorem write_any (y m d : Int) (t : List UInt8) (ht : IsTok t) (hy0 : 0 ≤ y) (hy : y ≤ 9999) (hm0 : 0 ≤ m) (hm : m ≤ 99) (hd0 : 0 ≤ d) (hd : d ≤ 99) (w : World) :
    Calls Try.prog 44 #[.agg #[.int .i64 y, .int .i64 m, .int .i64 d], .string ⟨t.toArray⟩] w (Gives w (.string ⟨(wr y m d t).toArray⟩)) := by
  have al : ∀ o, Below w.heap.size w (w.alloc o) := fun o => (Below.refl _ _).alloc (Nat.le_refl _) _
  rcases ht with rfl | rfl | rfl | ⟨c, rfl⟩
  · go_enter Try.func44, Try.ntmps44
    go_wp2_with fail
    refine (digits4_any _ hy0 hy _).mono ?_
    rintro e w1 ⟨rfl, hb⟩
    go_wp2_with fail
    go_ret
    exact ⟨rfl, (al _).trans (hb.mono (by simp))⟩
  · go_enter Try.func44, Try.ntmps44
    go_wp2_with fail
    refine (digits2_any _ hm0 (by omega) _).mono ?_
    rintro e w1 ⟨rfl, hb⟩
    go_wp2_with fail
    go_ret
    exact ⟨rfl, (al _).trans (hb.mono (by simp))⟩
  · go_enter Try.func44, Try.ntmps44
    go_wp2_with fail
    refine (digits2_any _ hd0 (by omega) _).mono ?_
    rintro e w1 ⟨rfl, hb⟩
    go_wp2_with fail
    go_ret
    exact ⟨rfl, (al _).trans (hb.mono (by simp))⟩
  · by_cases h1 : c = 77
    · subst h1
      go_enter Try.func44, Try.ntmps44
      go_wp2_with fail
      refine (short_any _ hm0 hm _).mono ?_
      rintro e w1 ⟨rfl, hb⟩
      go_wp2_with fail
      go_ret
      exact ⟨rfl, (al _).trans (hb.mono (by simp))⟩
    · by_cases h2 : c = 68
      · subst h2
        go_enter Try.func44, Try.ntmps44
        go_wp2_with fail
        refine (short_any _ hd0 hd _).mono ?_
        rintro e w1 ⟨rfl, hb⟩
        go_wp2_with fail
        go_ret
        exact ⟨rfl, (al _).trans (hb.mono (by simp))⟩
      · have e1 : (c == 77) = false := by simpa using h1
        have e2 : (c == 68) = false := by simpa using h2
        have hw := Lib.hid (show wr y m d [c] = [c] by simp [wr, h1, h2])
        go_enter Try.func44, Try.ntmps44
        go_wp2_with fail
        go_ret
        refine ⟨?_, al _⟩
        rw [hw.out]; rfl

theorem ret_is {a b : Int} {s t : List UInt8} (h : a = b) (h' : s = t) : Ending.returned (.tuple #[.int .i64 a, .string ⟨s.toArray⟩]) = .returned (.tuple #[.int .i64 b, .string ⟨t.toArray⟩]) := by rw [h, h']
theorem ext_drop (s : List UInt8) (k n : Nat) (hn : n = s.length) : (⟨s.toArray⟩ : ByteArray).extract k n = ⟨(s.drop k).toArray⟩ := by
  subst hn
  apply ByteArray.ext
  rw [ByteArray.data_extract]
  simp
  exact List.take_of_length_le (by simp)
theorem below_drewN {B : Nat} {a w : World} (h : Below B a w) (n : Nat) : Below B a (w.drewN n) := ⟨h.os, h.tape, h.output, h.size, h.block⟩
theorem ext_take (s : List UInt8) (k : Nat) : (⟨s.toArray⟩ : ByteArray).extract 0 k = ⟨(s.take k).toArray⟩ := by
  apply ByteArray.ext
  rw [ByteArray.data_extract]
  simp
theorem ret_iS {a b : Int} {X Y : ByteArray} (h : a = b) (h' : X = Y) : Ending.returned (.tuple #[.int .i64 a, .string X]) = .returned (.tuple #[.int .i64 b, .string Y]) := by rw [h, h']
theorem get_data (s : List UInt8) (k : Nat) (h : k < s.length) : (⟨s.toArray⟩ : ByteArray)[k]'h = s[k] := rfl
set_option maxHeartbeats 1000000 in
theorem take_any (t s : List UInt8) (ht : t.length ≤ 4) (hs : s.length ≤ maxLen) (w : World) :
    Calls Try.prog 49 #[.string ⟨t.toArray⟩, .string ⟨s.toArray⟩] w (Gives w (.tuple #[.int .i64 (takeN t s), .string ⟨(takeR t s).toArray⟩])) := by
  unfold maxLen at hs
  obtain ⟨M, hM⟩ : ∃ M, M = max t.length 2 := ⟨_, rfl⟩
  have hM4 : M ≤ 4 := by omega
  have hM' := Lib.hid hM
  clear hM
  go_enter Try.func49, Try.ntmps49
  go_wp2_with fail
  go_loop [7, 8] (fun n i => ∃ k : Nat, k ≤ M ∧ k ≤ s.length ∧ i = .int .i64 k ∧ n = .int .i64 (numD (s.take k)) ∧ ∀ c ∈ s.take k, isD c = true) (fun _ i => M - (intOf i).toNat)
  case atStart => exact ⟨0, by omega, by omega, rfl, rfl, by simp⟩
  case round =>
    obtain ⟨k, hk1, hk2, rfl, rfl, hk3⟩ := hrel
    have hnb := numD_bd4 _ hk3 (by rw [List.length_take]; omega)
    have hk3' := Lib.hid hk3
    clear hk3
    by_cases h1 : k < s.length
    · have hsn := Lib.hid (numD_snoc (s.take k) s[k])
      have hst := Lib.hid (List.take_succ_eq_append_getElem h1)
      have hcb : s[k].toNat < 256 := s[k].toNat_lt
      have hgd := get_data s k h1
      by_cases hkM : (k : Int) < max (t.length : Int) 2
      · by_cases hlo : (48 : Int) ≤ (s[k].toNat : Int)
        · by_cases hhi : (s[k].toNat : Int) ≤ 57
          · go_wp2_with fail
            go_round
            case rel => exact ⟨k + 1, by have := hM'.out; omega, by omega, by go_num, by rw [hst.out, hsn.out], take_isD_succ h1 hk3'.out (isD_mk hlo hhi)⟩
            case measure => have := hM'.out; simp [intOf]; omega
          · have hf := take_end (t := t) (s := s) (k := k) (by have := hM'.out; omega) hk2 hk3'.out (.inr (.inr ⟨h1, isD_gt (by omega)⟩))
            have hf1 := Lib.hid hf.1; have hf2 := Lib.hid hf.2
            clear hf
            go_wp2_with fail
            go_quiet (fail)
            go_wp2_with fail
            go_ret2
            exact ⟨ret_iS hf1.out.symm (by rw [hf2.out]; exact ext_drop _ _ _ rfl), below_drewN (Below.refl _ _) _⟩
        · have hf := take_end (t := t) (s := s) (k := k) (by have := hM'.out; omega) hk2 hk3'.out (.inr (.inr ⟨h1, isD_lt (by omega)⟩))
          have hf1 := Lib.hid hf.1; have hf2 := Lib.hid hf.2
          clear hf
          go_wp2_with fail
          go_quiet (fail)
          go_wp2_with fail
          go_ret2
          exact ⟨ret_iS hf1.out.symm (by rw [hf2.out]; exact ext_drop _ _ _ rfl), below_drewN (Below.refl _ _) _⟩
      · have hf := take_end (t := t) (s := s) (k := k) (by have := hM'.out; omega) hk2 hk3'.out (.inr (.inl (by have := hM'.out; omega)))
        have hf1 := Lib.hid hf.1; have hf2 := Lib.hid hf.2
        clear hf
        go_wp2_with fail
        go_quiet (fail)
        go_wp2_with fail
        go_ret2
        exact ⟨ret_iS hf1.out.symm (by rw [hf2.out]; exact ext_drop _ _ _ rfl), below_drewN (Below.refl _ _) _⟩
    · have hf := take_end (t := t) (s := s) (k := k) (by have := hM'.out; omega) hk2 hk3'.out (.inl (by omega))
      have hf1 := Lib.hid hf.1; have hf2 := Lib.hid hf.2
      clear hf
      go_wp2_with fail
      go_quiet (fail)
      go_wp2_with fail
      go_ret2
      exact ⟨ret_iS hf1.out.symm (by rw [hf2.out]; exact ext_drop _ _ _ rfl), below_drewN (Below.refl _ _) _⟩

/-! ### strings.Builder: copyCheck and WriteString, with the frame: only the builder's own blocks turn -/
theorem builder_infoByte : (Try.prog.info? 5).map (fun i => (i.zero, i.size, i.bytes)) = some (some (.int .u8 0), 1, 1) := by kernel_rfl
theorem builder_size : (Try.prog.info? 79).map (fun i => i.size) = some 2 := by kernel_rfl
theorem builder_lies : liesAt Try.prog Try.prog.depth 79 (2 / Try.prog.cellsOf 79) 0 79 1 = true := by kernel_rfl

set_option maxHeartbeats 1000000 in
theorem copyCheck_used (b : Nat) (w : World) (h0 : w.cell? ⟨b, 0, none⟩ = some (.pointer (some ⟨b, 0, none⟩))) :
    Calls Try.prog 64 #[.pointer (some ⟨b, 0, none⟩)] w fun e w' => e = .returned (.tuple #[]) ∧ w = w' := by
  obtain ⟨j, hj, hjs⟩ := Option.map_eq_some_iff.1 builder_size
  go_enter Try.func64, Try.ntmps64
  go_wp2
  rw [Lib.run_neq_ptr_same w _ Try.underlying77 hj]
  go_wp2
  go_end0
  exact ⟨rfl, rfl⟩
set_option maxHeartbeats 1000000 in
theorem copyCheck_fresh (b : Nat) (w : World) (h0 : w.cell? ⟨b, 0, none⟩ = some (.pointer none)) (hsh : w.shape? b = some (79, 2)) (hfz : w.frozen? ⟨b, 0, none⟩ = false) :
    Calls Try.prog 64 #[.pointer (some ⟨b, 0, none⟩)] w fun e w' => e = .returned (.tuple #[]) ∧ w.setCell ⟨b, 0, none⟩ (.pointer (some ⟨b, 0, none⟩)) = w' := by
  obtain ⟨j, hj, hjs⟩ := Option.map_eq_some_iff.1 builder_size
  go_enter Try.func64, Try.ntmps64
  go_wp2
  rw [Lib.run_to_unsafe w ⟨b, 0, none⟩ Try.underlying77 Try.underlying94 hj (by rw [hjs]; decide) hsh (Nat.zero_lt_succ 1)]
  simp only [Result.andThen]
  rw [Oper.upon_value]
  go_wp2
  rw [run_callFunc_extern Try.func72 (by kernel_rfl) (by kernel_rfl) (by kernel_rfl) (e := Extern.AbiNoEscape.same) (by kernel_rfl)]
  rw [Lib.run_noEscape]
  simp only [Result.andThen]
  rw [Oper.upon_value]
  go_wp2
  rw [Lib.run_from_unsafe w ⟨b, 0, none⟩ Try.underlying94 Try.underlying77 hj hsh builder_lies]
  simp only [Result.andThen]
  rw [Oper.upon_value]
  go_wp2
  go_end0
  exact ⟨rfl, rfl⟩

/-- appending a string's bytes to a row of the call's own: the new row lies where the old one lay, or in the next new block -/
theorem run_append_str_at {P : Program} (w : World) (base : Nat) (t u ty e : TypeId) (i : TypeInfo) (ht : P.underlying t = some (.slice e)) (hu : P.underlying u = some .string) (hi : P.info? e = some i) (hz : i.zero = some (.int .u8 0))
    (hsize : i.size = 1) (hby : i.bytes = 1) (v : Value) (n : Nat) (xs : List Value) (hown : w.ownsRow base e 1 v n xs) (s : ByteArray)
    (h63 : n + s.size ≤ maxLen) (hbytes : n + s.size ≤ 140737488355328) (hbase : base ≤ w.heap.size) :
    ∃ v' w', (Builtin.append_ #[t, u] ty #[v, .string s]).run P w = .ok v' w' ∧ w'.ownsRow base e 1 v' (n + s.size) (xs ++ Lib.strCells s) ∧ w.grownBy w' v.ownBlock ∧
      (v'.ownBlock = v.ownBlock ∨ v'.ownBlock = some w.heap.size) := by
  obtain ⟨v', w', hr, h2, h3, h4⟩ := Lib.run_append_own_string (P := P) w base t u ty e i ht hu hi hz hsize hby v n xs hown s h63 hbytes hbase
  refine ⟨v', w', hr, h2, h3, ?_⟩
  have hxl : xs.length = n := by simpa using hown.1
  unfold maxLen at h63
  rcases hown.2 with ⟨rfl, rfl⟩ | ⟨g, cap, cur, rfl, hbg, hg, hnc, hcm, hcs, htake⟩
  · by_cases hm : s.size = 0
    · have := h4.2 ⟨rfl, hm⟩
      subst this; exact .inl rfl
    · have hr' := run_append_nil_string (P := P) w t u ty e i (.int .u8 0) ht hu hi hz s (by omega) (by omega) (by rw [hby]; omega)
      rw [hr'] at hr
      injection hr with e1 e2
      rw [← e1]; exact .inr rfl
  · by_cases hroom : n + s.size ≤ cap
    · have hcs' : cur.size = cap := by simpa using hcs
      have hr' := Lib.run_append_room_string (P := P) w t u ty e i ht hu hi hsize g n cap cur hg s hroom (by omega)
      rw [hr'] at hr
      injection hr with e1 e2
      rw [← e1]; exact .inl rfl
    · have holds : ∀ j u, xs[j]? = some u → w.cell? ((⟨g, 0, none⟩ : Addr).add j) = some u := hown.cells (g := g) rfl
      have hr' := Lib.run_append_grow_string (P := P) w t u ty e i (.int .u8 0) ht hu hi hz ⟨g, 0, none⟩ n cap xs (by rw [hsize]; simpa using hxl) holds s (by omega) (by omega) (by rw [hby]; exact growslice_fits (by omega) (by omega))
      rw [hr'] at hr
      injection hr with e1 e2
      rw [← e1]; exact .inr rfl

theorem wpList_append_str_at {P : Program} (w : World) {ops : Array Oper} {rest : List Oper} {o : Oper} {a : Act} {Q : Exit → Act → World → Prop} (hgd : o.guard = none) (sl x : Operand) (t u : TypeId)
    (ho : o.op = .call { callee := .builtin .append, args := #[sl, x], argTypes := #[t, u] })
    (base : Nat) (e : TypeId) (i : TypeInfo) (ht : P.underlying t = some (.slice e)) (hu : P.underlying u = some .string) (hi : P.info? e = some i) (hz : i.zero = some (.int .u8 0))
    (hsize : i.size = 1) (hby : i.bytes = 1)
    (v : Value) (n : Nat) (xs : List Value) (hs : a.eval sl = v) (hown : w.ownsRow base e 1 v n xs) (s : ByteArray) (hx : a.eval x = .string s)
    (h63 : n + s.size ≤ maxLen) (hbytes : n + s.size ≤ 140737488355328) (hbase : base ≤ w.heap.size)
    (h : ∀ v' w', w'.ownsRow base e 1 v' (n + s.size) (xs ++ Lib.strCells s) → w.grownBy w' v.ownBlock → (v'.ownBlock = v.ownBlock ∨ v'.ownBlock = some w.heap.size) → wpList P ops Q rest (a.put o.dst v') w') : wpList P ops Q (o :: rest) a w := by
  refine wpList_plain hgd fun K hK => ?_
  obtain ⟨v', w', hr, h2, h3, h4⟩ := run_append_str_at (P := P) w base t u o.type e i ht hu hi hz hsize hby v n xs hown s h63 hbytes hbase
  unfold Oper.wp execOp
  simp only [ho, resolve, invoke, builtin, Sem.run_bind, Sem.run_pure, Result.andThen_ok, List.map_toArray, List.map_cons, List.map_nil, hs, hx, hr]
  exact hK _ _ (h v' w' h2 h3 h4)

/-- block b is a builder whose buffer is v, holding the bytes bs -/
def Bld (b : Nat) (v : Value) (bs : List UInt8) (W : World) : Prop :=
  (∃ p, (p = .pointer none ∨ p = .pointer (some ⟨b, 0, none⟩)) ∧ W.heap[b]? = some (.cells #[p, v] 79 (0, 0))) ∧ W.ownsRow 0 5 1 v bs.length (Lib.byteCells bs) ∧ v.ownBlock ≠ some b
/-- the blocks of such a builder -/
def Bm (b : Nat) (v : Value) : Nat → Prop := fun k => k = b ∨ v.ownBlock = some k
theorem Bld.hangs {b : Nat} {v : Value} {bs : List UInt8} {A B : World} {m : Nat → Prop} (h : Bld b v bs A) (hf : Fr m A B) (hm : ∀ k, Bm b v k → ¬ m k) : Bld b v bs B := by
  obtain ⟨⟨p, hp, hb⟩, ho, hn⟩ := h
  refine ⟨⟨p, hp, hf.heap hb (hm b (.inl rfl))⟩, ⟨ho.1, ?_⟩, hn⟩
  rcases ho.2 with h | ⟨g, cap, cur, rfl, h1, h2, h3⟩
  · exact .inl h
  · exact .inr ⟨g, cap, cur, rfl, h1, hf.heap h2 (hm g (.inr rfl)), h3⟩
theorem Bld.lt {b : Nat} {v : Value} {bs : List UInt8} {W : World} (h : Bld b v bs W) : ∀ k, Bm b v k → k < W.heap.size := by
  obtain ⟨⟨p, hp, hb⟩, ho, hn⟩ := h
  rintro k (rfl | hk)
  · exact (Array.getElem?_eq_some_iff.1 hb).1
  · exact (ho.lt k hk).2
theorem Bld.new (w : World) : Bld w.heap.size (.slice none 0 0) [] (w.alloc (.cells #[.pointer none, .slice none 0 0] 79)) :=
  ⟨⟨_, .inl rfl, heap_alloc_new w _⟩, World.ownsRow_nil _ _ _ _, by simp [Value.ownBlock]⟩

set_option maxHeartbeats 2000000 in
theorem WriteString_any (b : Nat) (v : Value) (bs s : List UInt8) (w : World) (h : Bld b v bs w) (hlen : bs.length + s.length ≤ 1000000) :
    Calls Try.prog 56 #[.pointer (some ⟨b, 0, none⟩), .string ⟨s.toArray⟩] w fun e w' => e = .returned (.tuple #[.int .i64 s.length, .nilIface]) ∧
      ∃ v', Bld b v' (bs ++ s) w' ∧ Fr (Bm b v) w w' ∧ ∀ k, Bm b v' k → Bm b v k ∨ w.heap.size ≤ k := by
  obtain ⟨i0, hi, hz0, hz1, hz2⟩ := info_parts builder_infoByte
  have hlt0 := Lib.hid (h.lt b (.inl rfl))
  obtain ⟨⟨p, hp, hb⟩, ho, hn⟩ := h
  -- behind copyCheck
  have main : ∀ w1 : World, Fr (Bm b v) w w1 → w1.heap.size = w.heap.size → w1.heap[b]? = some (.cells #[.pointer (some ⟨b, 0, none⟩), v] 79 (0, 0)) → w1.ownsRow 0 5 1 v bs.length (Lib.byteCells bs) → True := fun _ _ _ _ _ => trivial
  clear main
  have c0 : w.cell? ⟨b, 0, none⟩ = some p := by rw [Lib.cell_of_heap hb]; rfl
  have hcc : Calls Try.prog 64 #[.pointer (some ⟨b, 0, none⟩)] w fun e w' => e = .returned (.tuple #[]) ∧
      (Fr (Bm b v) w w' ∧ w'.heap.size = w.heap.size ∧ w'.heap[b]? = some (.cells #[.pointer (some ⟨b, 0, none⟩), v] 79 (0, 0)) ∧ w'.ownsRow 0 5 1 v bs.length (Lib.byteCells bs)) := by
    rcases hp with rfl | rfl
    · refine (copyCheck_fresh b w c0 (by simp [World.shape?, hb]) (Lib.frozen_of_heap hb 0)).mono ?_
      rintro e w' ⟨rfl, rfl⟩
      refine ⟨rfl, (Fr.refl _ _).setCell (p := ⟨b, 0, none⟩) (.inl (.inl rfl)) _, by simp [World.setCell], ?_, ?_⟩
      · simp [World.setCell, Array.getElem?_modify, hb]
      · exact ho.kept (row := some b) ⟨rfl, rfl, rfl, by simp [World.setCell], fun k _ hk => Below.heap_setCell _ _ _ _ (fun e => hk (by simp [e]))⟩ (.inr hn)
    · refine (copyCheck_used b w c0).mono ?_
      rintro e w' ⟨rfl, rfl⟩
      exact ⟨rfl, Fr.refl _ _, rfl, hb, ho⟩
  have hcc' := Lib.hid hcc
  clear hcc c0 hb ho hp
  go_enter Try.func56, Try.ntmps56
  go_wp2_with fail
  refine hcc'.out.mono ?_
  rintro e w1 ⟨rfl, hf1, hsz, hb1, ho1⟩
  have c1 : w1.cell? ⟨b, 1, none⟩ = some v := by rw [Lib.cell_of_heap hb1]; rfl
  have hl64 : bs.length + (⟨s.toArray⟩ : ByteArray).size ≤ 1000000 := by show bs.length + s.toArray.size ≤ _; simp; omega
  clear hsz
  go_wp2_with (at_builtin; refine wpList_append_str_at _ rfl _ _ 48 9 rfl 0 5 i0 Try.underlying48 Try.underlying9 hi hz0 hz1 hz2 v bs.length _ rfl ho1 ⟨s.toArray⟩ rfl ?c3 ?c4 (Nat.zero_le _) ?_)
  case c3 => unfold maxLen; omega
  case c4 => omega
  intro v' w2 hown' hgrow hat
  have hf2 : Fr (Bm b v) w w2 := hf1.grown hgrow (fun k hk => .inl (.inr hk))
  have hlt1 : b < w1.heap.size := Nat.lt_of_lt_of_le hlt0.out hf1.size
  have hb2 : w2.heap[b]? = some (.cells #[.pointer (some ⟨b, 0, none⟩), v] 79 (0, 0)) := by
    rw [hgrow.block b hlt1 (fun e => hn e.symm)]; exact hb1
  have d1 : w2.cell? ⟨b, 1, none⟩ = some v := by rw [Lib.cell_of_heap hb2]; rfl
  have f1 : w2.frozen? ⟨b, 1, none⟩ = false := Lib.frozen_of_heap hb2 1
  have hne : v'.ownBlock ≠ some b := by
    rcases hat with h | h
    · rw [h]; exact hn
    · rw [h]; intro he; simp at he; omega
  obtain ⟨ao, n', cap, hv'⟩ : ∃ ao n' cap, v' = .slice ao n' cap := by
    rcases hown'.2 with ⟨hv, _⟩ | ⟨g, cap, cur, hv, _⟩
    · exact ⟨_, _, _, hv⟩
    · exact ⟨_, _, _, hv⟩
  have hfin : Bld b v' (bs ++ s) (w2.setCell ⟨b, 1, none⟩ v') := by
    refine ⟨⟨_, .inr rfl, ?_⟩, ?_, hne⟩
    · simp [World.setCell, Array.getElem?_modify, hb2]
    · have hl : (bs ++ s).length = bs.length + (⟨s.toArray⟩ : ByteArray).size := by rw [List.length_append]; rfl
      have hbc : Lib.byteCells (bs ++ s) = Lib.byteCells bs ++ Lib.strCells ⟨s.toArray⟩ := by rw [Lib.byteCells_append]; rfl
      rw [hl, hbc]
      exact hown'.kept (row := some b) ⟨rfl, rfl, rfl, by simp [World.setCell], fun k _ hk => Below.heap_setCell _ _ _ _ (fun e => hk (by simp [e]))⟩ (.inr hne)
  have hfin' : Fr (Bm b v) w (w2.setCell ⟨b, 1, none⟩ v') := hf2.setCell (p := ⟨b, 1, none⟩) (.inl (.inl rfl)) _
  have hgr : ∀ k, Bm b v' k → Bm b v k ∨ w.heap.size ≤ k := by
    rintro k (rfl | hk)
    · exact .inl (.inl rfl)
    · rcases hat with h | h
      · exact .inl (.inr (h ▸ hk))
      · rw [h] at hk; simp at hk; exact .inr (by have := hf1.size; omega)
  have HF := Lib.hid hfin; have HF' := Lib.hid hfin'; have HG := Lib.hid hgr
  rw [hv'] at HF HF' HG
  rw [hv']
  clear hfin hfin' hgr hne hat hf2 hb2 hown' hgrow hf1 hb1 ho1 hv'
  go_wp2_with fail
  go_ret2
  exact ⟨rfl, _, HF.out, HF'.out, HG.out⟩
end Go.Proofs.Ytfoifnhakmfefaa
