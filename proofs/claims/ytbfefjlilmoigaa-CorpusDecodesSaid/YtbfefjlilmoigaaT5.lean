/- Walks over crc: frames. -/
import Derived.Test.YtbfefjlilmoigaaT4
namespace Go.Proofs.Ytbfefjlilmoigaa
open Go.RowKit
set_option linter.unusedVariables false

/-- What a frame's bytes are. -/
def frameB (bs : List UInt8) : List UInt8 := bs ++ leb (Crc.more 0 (nums bs))

theorem nums_frame (bs : List UInt8) : nums (frameB bs) = Crc.frame (nums bs) := by
  unfold frameB Crc.frame
  rw [nums_append, nums_leb _ (Crc.more_lt _ _)]
theorem frame_len (bs : List UInt8) : (frameB bs).length = bs.length + 4 := by simp [frameB, leb]

theorem frame_any (A : Option Addr) (n c : Nat) (bs : List UInt8) (w : World) (hb : Bytes w A n bs) (hn : n ≤ 100000000) :
    Calls Try.prog 21 #[.slice A n c] w fun e w' => ∃ v', e = .returned v' ∧ Own w' w.heap.size v' (frameB bs) ∧ Below w.heap.size w w' := by
  have H := hide hb; clear hb
  go_enter Try.func21, Try.ntmps21
  go_wp2_with (go_at_call 17; refine (sum_any A n c bs _ H.out (by omega)).mono ?_; rintro e w1 ⟨rfl, hbel1⟩)
  have hs := Crc.more_lt 0 (nums bs)
  obtain ⟨s, es⟩ : ∃ s, s = Crc.more 0 (nums bs) := ⟨_, rfl⟩
  rw [← es] at hs ⊢
  have Es := hide es; clear es
  refine (clone_any A n c bs _ (H.out.below hbel1) (by omega)).mono ?_
  rintro e w2 ⟨v2, rfl, hown2, hbel2⟩
  go_wp2_with (at_builtin; refine appB w.heap.size ((hown2.mono hbel1.size).below (below_alloc _ _)) (bytes_leb w2 s hs) (by have := H.out.len; omega) (by have := hbel1.size; have := hbel2.size; simp; omega) rfl _ _ rfl rfl _ rfl ?_)
  intro v3 w3 hown3 hbel3
  go_wp2
  go_ret
  refine ⟨_, rfl, ?_, ((below_both hbel1 hbel2 hbel1.size).trans ((below_alloc _ _).mono (by have := hbel1.size; have := hbel2.size; omega))).trans hbel3⟩
  rw [Es.out] at hown3
  exact hown3

theorem rframe_any (A : Option Addr) (n c : Nat) (bs : List UInt8) (w : World) (hb : Bytes w A n bs) (hn : n ≤ 100000000) :
    Calls Try.prog 24 #[.slice A n c] w fun e w' => ∃ v', e = .returned v' ∧ Own w' w.heap.size v' (frameB bs) ∧ Below w.heap.size w w' := by
  have H := hide hb; clear hb
  go_enter Try.func24, Try.ntmps24
  go_wp2_with fail
  refine (rsum_any A n c bs _ H.out (by omega)).mono ?_
  rintro e w1 ⟨rfl, rfl⟩
  have hs := Crc.more_lt 0 (nums bs)
  obtain ⟨s, es⟩ : ∃ s, s = Crc.more 0 (nums bs) := ⟨_, rfl⟩
  rw [← es] at hs ⊢
  have Es := hide es; clear es
  go_wp2_with (at_builtin; refine appB w.heap.size (Own.empty w) (H.out.below (below_alloc _ _)) (by simp only [List.length_nil]; omega) (by simp) rfl _ _ rfl rfl _ rfl ?_)
  intro v2 w2 hown2 hbel2
  go_wp2_with (at_builtin; refine appB w.heap.size (hown2.below (below_alloc _ _)) (bytes_leb w2 s hs) (by have := H.out.len; first | omega | (simp; omega)) (by have := hbel2.size; simp at this; first | omega | (simp; omega)) rfl _ _ rfl rfl _ rfl ?_)
  intro v3 w3 hown3 hbel3
  go_wp2
  go_ret
  refine ⟨_, rfl, ?_, (((below_alloc _ _).trans hbel2).trans ((below_alloc _ _).mono (by have := hbel2.size; simp at this; omega))).trans hbel3⟩
  rw [Es.out] at hown3
  exact hown3
end Go.Proofs.Ytbfefjlilmoigaa
