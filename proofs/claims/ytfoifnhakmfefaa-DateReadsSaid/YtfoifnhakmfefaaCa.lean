/- Every layout has what right asks of strings.ContainsAny; so Format and Read of package date answer as the reference for every layout. -/
import Derived.Test.YtfoifnhakmfefaaAny
namespace Go.Proofs.Ytfoifnhakmfefaa
open Go.RowKit Go.Shelf
open Cal Txt
set_option linter.unusedVariables false

theorem ca_any (L : List UInt8) : CaFor L := by
  by_cases ha : ∀ b ∈ L, b.toNat < 128
  · exact ca_ascii ha
  intro hl w
  have hx : ∃ c ∈ L, 128 ≤ c.toNat := Classical.byContradiction fun hn => ha fun b hb => Nat.lt_of_not_le fun h => hn ⟨b, hb, h⟩
  obtain ⟨c, hc, h128⟩ := hx
  have hr : rightB L = false := not_right hc (.inr (.inl (by omega)))
  have hg : goodFrom ⟨0, 0, 0, false⟩ (tokens L) = false := by
    cases h : goodFrom ⟨0, 0, 0, false⟩ (tokens L)
    · rfl
    · have := (good_bytes h c hc).2; omega
  have hok : ∀ b, CaOk L b := fun b => ⟨fun _ => hr, fun _ => by rw [hr, hg]⟩
  by_cases h8 : L.length ≤ 8
  · refine (cany_short ⟨L.toArray⟩ h8 w).mono ?_
    rintro e w' ⟨⟨b, rfl⟩, hb⟩
    exact ⟨b, rfl, hok b, hb⟩
  · have hz : (Try.prog.info? 90).map (fun i => (i.zero, i.size)) = some (some (.agg (Array.replicate 256 (.bool false))), 256) := by kernel_rfl
    have HC := Lib.hid hok
    have HI := Lib.hid (fun W => Try.strings_IndexAny_long (zero_of_info hz).1 ⟨L.toArray⟩ ⟨digitsS.toArray⟩ W (by decide) (by show 8 < L.length; omega) (by show L.length < _; omega) (by decide) (fun j b h => (show ∀ b ∈ digitsS, b.toNat < 128 by decide) b (List.mem_of_getElem? h)))
    clear hok hz hr hg
    go_enter Try.func54, Try.ntmps54
    go_wp2_with fail
    refine (HI.out _).mono ?_
    rintro e w1 ⟨rfl, rfl⟩
    go_wp2_with fail
    go_ret
    exact ⟨_, rfl, HC.out _, ((Below.refl _ _).alloc (Nat.le_refl _) _).alloc (by simp) _⟩
end Go.Proofs.Ytfoifnhakmfefaa
