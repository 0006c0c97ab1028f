/- The fixed fact of layer 4's statements. -/
import Derived.Test.YtbfefjlilmoigaaT7
import Derived.Lib.SlBytesConst
namespace Go.Proofs.Ytbfefjlilmoigaa
open Go.RowKit
set_option linter.unusedVariables false

theorem open_frame (b : List UInt8) : openB (frameB b) = some b := by
  unfold openB
  have h1 : (frameB b).length = b.length + 4 := frame_len b
  rw [if_neg (by omega), h1, show b.length + 4 - 4 = b.length by omega]
  have h2 : (frameB b).take b.length = b := by unfold frameB; exact List.take_left
  rw [h2]
  simp

/-- A constant's bytes, in a row of their own. -/
theorem bytes_const (w : World) (bs : List UInt8) (n : Nat) (hn : bs.length = n) (p : Nat × Nat) : Bytes (w.alloc (.cells (u8s bs).toArray 5 p)) (some ⟨w.heap.size, 0, none⟩) n bs :=
  ⟨by rw [u8s_length]; exact hn, fun _ => ⟨_, _, rfl, fun j u hu => by
    rw [Nat.zero_add, cell_of_row _ w.heap.size j (u8s bs).toArray 5 p (heap_alloc_new w _)]
    simpa using hu⟩⟩

theorem sum9 : Crc.more 0 (nums [49, 50, 51, 52, 53, 54, 55, 56, 57]) = 3421780262 := by decide +kernel
theorem sum4 : Crc.more (Crc.more 0 (nums [49, 50, 51, 52])) (nums [53, 54, 55, 56, 57]) = 3421780262 := by decide +kernel

theorem alive4 (w : World) : Calls Try.prog 16 #[] w fun e w' => e = .returned (.bool true) ∧ Below w.heap.size w w' := by
  have kc := fun (w : World) (C : Array Value) (n c : Nat) => Lib.run_convert_bytes_const (P := Try.prog) w 22 5 C n c Try.underlying22 Try.underlying5
  go_enter Try.func16, Try.ntmps16
  go_wp2_with fail
  refine (frame_any (some ⟨w.heap.size, 0, none⟩) 2 2 [97, 98] _ (bytes_const w [97, 98] 2 rfl (2, 3)) (by omega)).mono ?_
  rintro e w1 ⟨v1, rfl, hown1, hbel1⟩
  have hb1 : Below w.heap.size w w1 := below_both (below_alloc _ _) hbel1 (by simp)
  obtain ⟨A1, c1, hv1, hB1, hc1, hm1⟩ := hown1.form
  rw [show (frameB [97, 98]).length = 6 by decide +kernel] at hv1 hB1 hc1
  subst hv1
  go_wp2_with fail
  have C2 := open_any A1 6 c1 _ w1 hB1 (by omega) hc1
  unfold OpenPost at C2
  rw [open_frame] at C2
  refine C2.mono ?_
  rintro e w2 ⟨v2, rfl, hown2, hbel2⟩
  have hb2 := below_both hb1 hbel2 hb1.size
  obtain ⟨A2, c2, hv2, hB2, hc2, hm2⟩ := hown2.form
  subst hv2
  clear C2
  go_wp2_with fail
  have C3 := open_any A1 3 c1 _ w2 ((hB1.take 3 (by omega)).below hbel2) (by omega) (by omega)
  have e3 : openB (List.take 3 (frameB [97, 98])) = none := by decide +kernel
  unfold OpenPost at C3
  rw [e3] at C3
  clear e3
  refine C3.mono ?_
  rintro e w3 ⟨v3, rfl, hown3, hbel3⟩
  have hb3 := below_both hb2 hbel3 hb2.size
  clear C3
  go_wp2_with fail
  have C4 := sum_any (some ⟨w3.heap.size, 0, none⟩) 9 9 _ _ (bytes_const w3 [49, 50, 51, 52, 53, 54, 55, 56, 57] 9 rfl (9, 10)) (by omega)
  rw [sum9] at C4
  refine C4.mono ?_
  rintro e w4 ⟨rfl, hbel4⟩
  have hb4 := below_both (below_both hb3 (below_alloc _ _) hb3.size) hbel4 (by have := hb3.size; simp; omega)
  clear C4
  go_wp2_with fail
  have C5 := sum_any (some ⟨w4.heap.size, 0, none⟩) 4 4 _ _ (bytes_const w4 [49, 50, 51, 52] 4 rfl (4, 5)) (by omega)
  have l5 := Crc.more_lt 0 (nums [49, 50, 51, 52])
  have s5 := sum4
  obtain ⟨m5, q5⟩ : ∃ m, m = Crc.more 0 (nums [49, 50, 51, 52]) := ⟨_, rfl⟩
  rw [← q5] at C5 l5 s5
  clear q5
  have S5 := hide s5; clear s5
  refine C5.mono ?_
  rintro e w5 ⟨rfl, hbel5⟩
  have hb5 := below_both (below_both hb4 (below_alloc _ _) hb4.size) hbel5 (by have := hb4.size; simp; omega)
  clear C5
  go_wp2_with fail
  have C6 := more_any m5 (some ⟨w5.heap.size, 0, none⟩) 5 5 _ _ l5 (bytes_const w5 [53, 54, 55, 56, 57] 5 rfl (5, 6)) (by omega)
  rw [S5.out] at C6
  refine C6.mono ?_
  rintro e w6 ⟨rfl, hbel6⟩
  have hb6 := below_both (below_both hb5 (below_alloc _ _) hb5.size) hbel6 (by have := hb5.size; simp; omega)
  clear C6
  have hB6 : Bytes w6 A2 2 [97, 98] := (((hB2.below hbel3).below (below_both (below_alloc _ _) hbel4 (by simp))).below (below_both (below_alloc _ _) hbel5 (by simp))).below (below_both (below_alloc _ _) hbel6 (by simp))
  have e6 := hB6.convert c2
  clear hB6 hB2 hown2 hown3 hbel1 hbel2 hbel3 hbel4 hbel5 hbel6 hown1 hB1 hb1 hb2 hb3 hb4 hb5
  go_wp2
  go_ret
  exact ⟨rfl, hb6⟩

end Go.Proofs.Ytbfefjlilmoigaa
