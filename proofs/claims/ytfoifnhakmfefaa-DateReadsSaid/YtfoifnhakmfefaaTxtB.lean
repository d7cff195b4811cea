/- The iterator over the fields of a layout: it hands out just the layout's tokens, and keeps what is left of the layout in a variable of its own. -/
import Derived.Test.YtfoifnhakmfefaaTxtA
import Derived.OwnWalkIn
import Derived.TacticsInMore
import Derived.LoopNIn
import Derived.LoopIn
namespace Go.Proofs.Ytfoifnhakmfefaa
open Go.RowKit Go.Shelf
open Cal Txt
set_option linter.unusedVariables false
attribute [local go_sem] Oper.semAt_some

/-- how much of the layout is left, read off the world -/
def leftAt (b : Nat) (W : World) : Nat := match W.cell? ⟨b, 0, none⟩ with | some (Value.string s) => s.size | _ => 0
theorem leftAt_eq {b : Nat} {W : World} {s : List UInt8} {t : TypeId} (h : W.heap[b]? = some (.cells #[.string ⟨s.toArray⟩] t (0, 0))) : leftAt b W = s.length := by
  have hc : W.cell? ⟨b, 0, none⟩ = some (.string ⟨s.toArray⟩) := by simp [World.cell?, h]
  unfold leftAt; rw [hc]; rfl
theorem box_cell {W : World} {b : Nat} {v : Value} {t : TypeId} (h : W.heap[b]? = some (.cells #[v] t (0, 0))) : W.cell? ⟨b, 0, none⟩ = some v ∧ W.frozen? ⟨b, 0, none⟩ = false := by
  constructor <;> simp [World.cell?, World.frozen?, h]
theorem box_set {W : World} {b : Nat} {v : Value} {t : TypeId} (h : W.heap[b]? = some (.cells #[v] t (0, 0))) (u : Value) : (W.setCell ⟨b, 0, none⟩ u).heap[b]? = some (.cells #[u] t (0, 0)) := by
  simp [World.setCell, Array.getElem?_modify, h]

/-- which of the three words stands at the head of what is left, and how long the token is -/
theorem tok_cases (r : List UInt8) (h : r ≠ []) : ∃ p1 p2 p3 : Bool, Lib.hasPrefix r [89, 89, 89, 89] = p1 ∧ Lib.hasPrefix r [77, 77] = p2 ∧ Lib.hasPrefix r [68, 68] = p3 ∧
    ((p1 = true ∧ p2 = false ∧ p3 = false ∧ tokLen r = 4) ∨ (p1 = false ∧ p2 = true ∧ p3 = false ∧ tokLen r = 2) ∨ (p1 = false ∧ p2 = false ∧ p3 = true ∧ tokLen r = 2) ∨ (p1 = false ∧ p2 = false ∧ p3 = false ∧ tokLen r = 1)) := by
  refine ⟨_, _, _, rfl, rfl, rfl, ?_⟩
  have hp : ∀ p : List UInt8, Lib.hasPrefix r p = decide (r.take p.length = p) := by
    intro p
    unfold Lib.hasPrefix
    rw [Bool.eq_iff_iff, List.isPrefixOf_iff_prefix, decide_eq_true_eq, List.prefix_iff_eq_take]
    exact eq_comm
  simp only [hp, List.length_cons, List.length_nil, Nat.zero_add, Nat.reduceAdd]
  unfold tokLen
  by_cases h4 : r.take 4 = [89, 89, 89, 89]
  · have e2 : r.take 2 = [89, 89] := by
      have := congrArg (List.take 2) h4
      rw [List.take_take] at this
      simpa using this
    simp [h4, e2]
  · by_cases h2 : r.take 2 = [77, 77]
    · simp [h4, h2]
    · by_cases h3 : r.take 2 = [68, 68]
      · simp [h4, h3]
      · simp [h4, h2, h3]

set_option maxHeartbeats 4000000 in
set_option maxRecDepth 100000 in
theorem fields_iter (L : List UInt8) (hL : L.length ≤ 1000000) (Bn : Nat) (w0 : World) (hb0 : w0.heap[Bn]? = some (.cells #[.string ⟨L.toArray⟩] 9 (0, 0))) :
    IterC Try.prog 60 #[.pointer (some ⟨Bn, 0, none⟩)] (fun t : List UInt8 => #[Value.string ⟨t.toArray⟩]) (tokens L) (fun b => b = Bn) w0 := by
  intro l J Jx m0 W hW hJ hJlt hround h0
  have hBn : Bn < w0.heap.size := (Array.getElem?_eq_some_iff.1 hb0).1
  have hbW : W.heap[Bn]? = some (.cells #[.string ⟨L.toArray⟩] 9 (0, 0)) := (hW.block Bn hBn).trans hb0
  refine callsIn_of_wp Try.func60 rfl trivial ?_ rfl
  simp only [Try.ntmps60, List.size_toArray, List.length_cons, List.length_nil, Nat.reduceAdd, Nat.reduceSub, Array.replicate_succ, Array.replicate_zero, List.push_toArray, List.append_toArray, List.nil_append, List.cons_append]
  gi_wp2_with fail
  gi_loopw [] (fun wr => ∃ (pre : List (List UInt8)) (r : List UInt8) (m : Nat → Prop), tokens L = pre ++ tokens r ∧ r.length ≤ L.length ∧ J pre m wr ∧ wr.heap[Bn]? = some (.cells #[.string ⟨r.toArray⟩] 9 (0, 0)) ∧ Fr (fun b => m0 b ∨ b = Bn) W wr ∧ ∀ b, m b → m0 b ∨ W.heap.size ≤ b)
    (fun wr => leftAt Bn wr)
  case atStart => exact ⟨[], L, m0, rfl, Nat.le_refl _, h0, hbW, Fr.refl _ _, fun _ h => .inl h⟩
  case round =>
    obtain ⟨pre, r, m, hx, hrl, hJs, hbr, hfr, hmm⟩ := hrel
    have hc := (box_cell hbr).1
    have hbr' := Lib.hid hbr
    have hx' := Lib.hid hx
    clear hbr hx
    by_cases hr0 : r = []
    · subst hr0
      gi_wp2_with fail
      go_end0
      refine ⟨⟨_, rfl⟩, hfr, .inl ⟨m, ?_⟩⟩
      rw [hx'.out, tokens_nil, List.append_nil]; exact hJs
    · obtain ⟨p1, p2, p3, h1, h2, h3, hcase⟩ := tok_cases r hr0
      have hxt := ext_take r
      have hlt : Bn < wr.heap.size := (Array.getElem?_eq_some_iff.1 hbr'.out).1
      have hca : ∀ o, (wr.alloc o).cell? ⟨Bn, 0, none⟩ = some (.string ⟨r.toArray⟩) := fun o => (World.cell?_of_block (w := wr) (Below.heap_alloc wr o Bn hlt)).trans hc
      have hrs : r.isEmpty = false := by cases r <;> simp_all
      have hlen : 1 ≤ r.length := by cases r <;> simp_all
      have htl := tokLen_le r hr0
      have htp := tokLen_pos r
      have htok := Lib.hid (tokens_cons r hr0)
      have hJa : ∀ o, J pre m (wr.alloc o) := fun o => hJ _ _ _ _ hJs ((Fr.refl _ wr).alloc o)
      have hround' := fun o => hround pre (r.take (tokLen r)) (tokens (r.drop (tokLen r))) m (wr.alloc o) (by rw [hx'.out, htok.out]) (hJa o)
      have hnb : ¬ m Bn := fun h => (hJlt _ _ _ _ hJs h).2 rfl
      clear hJa hJs h0 hround hW hbW hb0
      rcases hcase with ⟨rfl, rfl, rfl, hn⟩ | ⟨rfl, rfl, rfl, hn⟩ | ⟨rfl, rfl, rfl, hn⟩ | ⟨rfl, rfl, rfl, hn⟩
      all_goals
        rw [hn] at hround' htl
        have hxd := ext_drop r
        have HR := Lib.hid hround'
        have hn' := Lib.hid hn
        clear hn hround' htp
        gi_wp2_with fail
        refine wpIn_loop_rounds 4 ?_
        rw [roundsIn_succ]
        gi_wp2_with fail
        refine ⟨trivial, rfl, ?_⟩
        refine (callsIn_wide.2 (Try.strings_HasPrefix _ _ _)).mono ?_
        rintro e w' ⟨rfl, rfl⟩
        gi_wp2_with fail
        rw [roundsIn_succ]
        gi_wp2_with fail
        refine ⟨trivial, rfl, ?_⟩
        refine (callsIn_wide.2 (Try.strings_HasPrefix _ _ _)).mono ?_
        rintro e w' ⟨rfl, rfl⟩
        gi_wp2_with fail
        rw [roundsIn_succ]
        gi_wp2_with fail
        refine ⟨trivial, rfl, ?_⟩
        refine (callsIn_wide.2 (Try.strings_HasPrefix _ _ _)).mono ?_
        rintro e w' ⟨rfl, rfl⟩
        gi_wp2_with fail
        rw [roundsIn_succ]
        obtain ⟨fn, tmps, assign, body, hy, hR⟩ := HR.out (.cells #[.string ⟨#[89, 89, 89, 89]⟩, .string ⟨#[77, 77]⟩, .string ⟨#[68, 68]⟩] 9)
        have HR2 := Lib.hid hR
        clear hR
        gi_wp2_with fail
        refine ⟨rfl, ?_⟩
        refine HR2.out.mono ?_
        rintro e W3 (⟨rfl, m', hJ3, hf3, hg3⟩ | ⟨rfl, hJx3, hf3⟩)
        · have hb3 : W3.heap[Bn]? = some (.cells #[.string ⟨r.toArray⟩] 9 (0, 0)) := hf3.heap ((Below.heap_alloc wr _ Bn hlt).trans hbr'.out) hnb
          have hc3 := (box_cell hb3).1
          have hz3 := (box_cell hb3).2
          have hb3' := Lib.hid hb3
          have hfr3 : Fr (fun b => m0 b ∨ b = Bn) W W3 := (hfr.alloc _).trans' hf3 (fun b hb => (hmm b hb).elim (fun h => .inl (.inl h)) .inr)
          have hgr3 : ∀ b, m' b → m0 b ∨ W.heap.size ≤ b := fun b hb => by
            rcases hg3 b hb with h | h
            · exact hmm b h
            · exact .inr (by have := hfr.size; simp at h; omega)
          have hnb3 : ¬ m' Bn := fun h => (hJlt _ _ _ _ hJ3 h).2 rfl
          have HX := Lib.hid hfr3; have HG := Lib.hid hgr3
          clear hfr3 hgr3 hg3 hb3 hf3 hy
          gi_wp2_with fail
          go_roundw
          case rel =>
            refine ⟨_, _, m', ?_, ?_, hJ _ _ _ _ hJ3 ((Fr.refl _ W3).setCell (p := ⟨Bn, 0, none⟩) (.inl hnb3) _), box_set hb3'.out _, HX.out.setCell (p := ⟨Bn, 0, none⟩) (.inl (.inr rfl)) _, HG.out⟩
            · rw [hx'.out, htok.out, hn'.out, List.append_assoc]; first | rfl | (rw [List.drop_one]; rfl)
            · simp; omega
          case measure => rw [leftAt_eq (box_set hb3'.out _), leftAt_eq hbr'.out]; simp; omega
        · gi_wp2_with fail
          refine bodyPost_ret (results_none rfl _ _ _) rfl ?_
          exact ⟨⟨_, rfl⟩, (hfr.alloc _).trans' hf3 (fun b hb => (hmm b hb).elim (fun h => .inl (.inl h)) .inr), .inr ⟨_, hJx3⟩⟩
end Go.Proofs.Ytfoifnhakmfefaa
