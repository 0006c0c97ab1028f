/- Walks over crc: frames opened. -/
import Derived.Test.YtbfefjlilmoigaaT5
namespace Go.Proofs.Ytbfefjlilmoigaa
open Go.RowKit
set_option linter.unusedVariables false

/-- What is in a frame. -/
def openB (f : List UInt8) : Option (List UInt8) :=
  if f.length < 4 then none else if frameB (f.take (f.length - 4)) == f then some (f.take (f.length - 4)) else none

theorem Bytes.take {w : World} {A : Option Addr} {n : Nat} {bs : List UInt8} (h : Bytes w A n bs) (k : Nat) (hk : k ≤ n) : Bytes w A k (bs.take k) := by
  have hl := h.len
  refine ⟨by rw [u8s_length, List.length_take]; omega, fun hp => ?_⟩
  obtain ⟨b, o, e, hc⟩ := h.2 (by omega)
  refine ⟨b, o, e, fun j u hu => hc j u ?_⟩
  rw [u8s, List.map_take, List.getElem?_take] at hu
  split at hu
  · exact hu
  · cases hu

def OpenPost (w : World) (f : List UInt8) (e : Ending) (w' : World) : Prop :=
  ∃ v, e = .returned (.tuple #[v, .bool (openB f).isSome]) ∧ Own w' w.heap.size v ((openB f).getD []) ∧ Below w.heap.size w w'

theorem open_any (A : Option Addr) (n c : Nat) (f : List UInt8) (w : World) (hb : Bytes w A n f) (hn : n ≤ 100000000) (hnc : n ≤ c) :
    Calls Try.prog 22 #[.slice A n c] w (OpenPost w f) := by
  have H := hide hb
  have hl := hb.len
  clear hb
  by_cases h4 : n < 4
  · have hfin : Hid (openB f = none) := by show _ = _; unfold openB; rw [if_pos (by omega)]
    clear hl
    go_enter Try.func22, Try.ntmps22
    go_wp2
    go_ret2
    refine ⟨.slice none 0 0, ?_, ?_, Below.refl _ _⟩
    · rw [hfin.out]; rfl
    · rw [hfin.out]; exact Own.nil_ _ _
  · obtain ⟨b, o, _, rfl, _, _⟩ := H.out.at_ (k := 0) (by omega)
    have e0 : (n : Int) - 4 = ((n - 4 : Nat) : Int) := by omega
    obtain ⟨k, hk⟩ : ∃ k, n = k + 4 := ⟨n - 4, by omega⟩
    subst hk
    clear e0
    have hlt : decide ((k : Int) < 0) = false := by simp
    have ho : Hid (openB f = if frameB (f.take k) == f then some (f.take k) else none) := by
      show _ = _
      unfold openB
      rw [if_neg (by omega), show f.length - 4 = k by omega]
    have hL := hide hl; clear hl
    go_enter Try.func22, Try.ntmps22
    go_wp2_with fail
    refine (frame_any (some ⟨b, o, none⟩) k c (f.take k) _ (H.out.take k (by omega)) (by omega)).mono ?_
    rintro e w1 ⟨v1, rfl, hown1, hbel1⟩
    obtain ⟨A1, c1, hv, hB1, hc1, hm1⟩ := hown1.form
    subst hv
    go_wp2_with fail
    have EQ := equal_any A1 (some ⟨b, o, none⟩) _ _ c1 c _ _ w1 hB1 (H.out.below hbel1)
    cases hq : (frameB (f.take k) == f) with
    | false =>
      rw [hq] at EQ ho
      refine EQ.mono ?_
      rintro e w2 ⟨rfl, rfl⟩
      clear hq EQ
      go_wp2
      go_ret2
      refine ⟨.slice none 0 0, ?_, ?_, hbel1⟩
      · rw [ho.out]; rfl
      · rw [ho.out]; exact Own.nil_ _ _
    | true =>
      rw [hq] at EQ ho
      refine EQ.mono ?_
      rintro e w2 ⟨rfl, rfl⟩
      clear hq EQ
      go_wp2_with fail
      refine (clone_any (some ⟨b, o, none⟩) k c (f.take k) _ ((H.out.take k (by omega)).below hbel1) (by omega)).mono ?_
      rintro e w3 ⟨v3, rfl, hown3, hbel3⟩
      go_wp2
      go_ret2
      refine ⟨v3, ?_, ?_, below_both hbel1 hbel3 hbel1.size⟩
      · rw [ho.out]; rfl
      · rw [ho.out]; exact hown3.mono hbel1.size

end Go.Proofs.Ytbfefjlilmoigaa
