/- Walks over crc's reference: frames opened. -/
import Derived.Test.YtbfefjlilmoigaaT6
import Derived.Deep.RegionWith
import Derived.Deep.DrawnRows
namespace Go.Proofs.Ytbfefjlilmoigaa
open Go.RowKit
set_option linter.unusedVariables false
attribute [local go_sem ↓] Go.wp_at_zero Go.wp_at_succ

theorem Bytes.drew {w : World} {A : Option Addr} {n : Nat} {bs : List UInt8} (h : Bytes w A n bs) : Bytes w.drew A n bs := h
theorem Own.drew {w : World} {base : Nat} {v : Value} {bs : List UInt8} (h : Own w base v bs) : Own w.drew base v bs := h

theorem ropen_any (A : Option Addr) (n c : Nat) (f : List UInt8) (w : World) (hb : Bytes w A n f) (hn : n ≤ 100000000) (hnc : n ≤ c) :
    Calls Try.prog 23 #[.slice A n c] w (OpenPost w f) := by
  have H := hide hb
  have hl := hb.len
  clear hb
  by_cases h4 : n < 4
  · have hfin : Hid (openB f = none) := by show _ = _; unfold openB; rw [if_pos (by omega)]
    clear hl
    go_enter Try.func23, Try.ntmps23
    go_wp2
    go_ret2
    refine ⟨.slice none 0 0, ?_, ?_, Below.refl _ _⟩
    · rw [hfin.out]; rfl
    · rw [hfin.out]; exact Own.nil_ _ _
  · obtain ⟨b, o, _, rfl, _, _⟩ := H.out.at_ (k := 0) (by omega)
    obtain ⟨k, hk⟩ : ∃ k, n = k + 4 := ⟨n - 4, by omega⟩
    subst hk
    have ho : Hid (openB f = if frameB (f.take k) == f then some (f.take k) else none) := by
      show _ = _
      unfold openB
      rw [if_neg (by omega), show f.length - 4 = k by omega]
    have hL := hide hl; clear hl
    have HC : Hid (∀ W, Below w.heap.size w W → Sem.run Try.prog (Go.convert 22 9 (.slice (some ⟨b, o, none⟩) (k + 4) c)) W = .ok (.string ⟨f.toArray⟩) W) := fun W hW => (H.out.below hW).convert c
    go_enter Try.func23, Try.ntmps23
    go_wp2_with (at_builtin; refine appB w.heap.size (Own.empty w) ((H.out.take k (by omega)).below (below_alloc _ _)) (by have := hL.out; first | omega | (simp; omega)) (by simp) rfl _ _ rfl rfl _ rfl ?_)
    intro v1 w1 hown1 hbel1
    have hbw1 : Below w.heap.size w w1 := (below_alloc _ _).trans hbel1
    obtain ⟨A1, c1, hv, hB1, hc1, hm1⟩ := hown1.form
    have hlen : (f.take k).length = k := by simp [hL.out]
    rw [hlen] at hv hB1 hc1
    clear hlen
    subst hv
    have hbd : Below w.heap.size w w1.drew := hbw1.drew
    have HC2 := HC.out
    cases hq : (frameB (f.take k) == f) with
    | false =>
      have hq2 : (frameB (f.take k) != f) = true := by simp only [bne, hq]; rfl
      rw [hq] at ho
      go_wp2
      go_region_with ((go_at_call 24; refine (rframe_any A1 k c1 _ _ hB1.drew (by omega)).mono ?_; rintro e w3 ⟨v3, rfl, hown3, hbel3⟩; obtain ⟨A3, c3, hv3, hB3, _⟩ := hown3.form; subst hv3; have e3 := hB3.convert c3; have hbw3 := below_both hbw1.drew hbel3 hbw1.size))
      all_goals
        go_wp2
        go_ret2
        refine ⟨.slice none 0 0, ?_, ?_, hbw3⟩
        · rw [ho.out]; rfl
        · rw [ho.out]; exact Own.nil_ _ _
    | true =>
      have hq2 : (frameB (f.take k) != f) = false := by simp only [bne, hq]; rfl
      rw [hq] at ho
      go_wp2
      go_region_with ((go_at_call 24; refine (rframe_any A1 k c1 _ _ hB1.drew (by omega)).mono ?_; rintro e w3 ⟨v3, rfl, hown3, hbel3⟩; obtain ⟨A3, c3, hv3, hB3, _⟩ := hown3.form; subst hv3; have e3 := hB3.convert c3; have hbw3 := below_both hbw1.drew hbel3 hbw1.size))
      all_goals
        go_wp2
        go_ret2
        refine ⟨.slice A1 k c1, ?_, ?_, hbw3⟩
        · rw [ho.out]; rfl
        · rw [ho.out]; exact hown1.drew.below hbel3

end Go.Proofs.Ytbfefjlilmoigaa
