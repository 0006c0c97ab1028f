/- The fixed fact of layer 5's statements. -/
import Derived.Test.YtbfefjlilmoigaaT14
namespace Go.Proofs.Ytbfefjlilmoigaa
open Go.RowKit
set_option linter.unusedVariables false

theorem ints_new (w : World) (l : List Int) (n : Nat) (hn : l.length = n) : Ints (w.alloc (.cells (ints l).toArray 3)) (some ⟨w.heap.size, 0, none⟩) n l :=
  Elems.new w _ 3 n (by rw [ints_length]; exact hn)
theorem ints_new' (w : World) (l : List Int) (n g : Nat) (hn : l.length = n) (hg : g = w.heap.size) : Ints (w.alloc (.cells (ints l).toArray 3)) (some ⟨g, 0, none⟩) n l := by
  subst hg
  exact ints_new w l n hn
theorem bytes_new (w : World) (bs : List UInt8) (n : Nat) (hn : bs.length = n) : Bytes (w.alloc (.cells (u8s bs).toArray 5)) (some ⟨w.heap.size, 0, none⟩) n bs :=
  Elems.new w _ 5 n (by rw [u8s_length]; exact hn)

/-- A slice that the call owns, its length known. -/
theorem Own.form3 {w : World} {base : Nat} {v : Value} {bs : List UInt8} (h : Own w base v bs) (n : Nat) (hn : bs.length = n) : ∃ A c, v = .slice A n c ∧ Bytes w A n bs ∧ n ≤ c ∧ c ≤ 9223372036854775807 := by
  obtain ⟨A, L, c, h1, h2, h3, h4, h5⟩ := Own.form2 h
  have : L = n := h2.out.trans hn
  subst this
  exact ⟨A, c, h1, h3, h4, h5⟩
theorem OwnI.form3 {w : World} {base : Nat} {v : Value} {l : List Int} (h : OwnI w base v l) (n : Nat) (hn : l.length = n) : ∃ A c, v = .slice A n c ∧ Ints w A n l ∧ n ≤ c ∧ c ≤ 9223372036854775807 := by
  obtain ⟨A, L, c, h1, h2, h3, h4, h5⟩ := OwnI.form2 h
  have : L = n := h2.out.trans hn
  subst this
  exact ⟨A, c, h1, h3, h4, h5⟩

set_option maxRecDepth 100000 in
theorem alive5 (w : World) : Calls Try.prog 29 #[] w fun e w' => e = .returned (.bool true) ∧ Below w.heap.size w w' := by
  go_enter Try.func29, Try.ntmps29
  go_wp2_with fail
  have C1 := put_any (some ⟨w.heap.size, 0, none⟩) 1 1 [7] 300 _ (bytes_new w [7] 1 rfl) (by omega) (by omega)
  rw [show ([7] ++ Code.putN 300 : List UInt8) = [7, 172, 2] by decide +kernel] at C1
  refine C1.mono ?_
  rintro e w1 ⟨v1, rfl, hown1, hbel1⟩
  have hb1 : Below w.heap.size w w1 := below_both (below_alloc _ _) hbel1 (by simp)
  obtain ⟨A1, c1, hv1, hB1, hc1, hm1⟩ := hown1.form3 3 rfl
  subst hv1
  clear C1 hown1 hbel1
  go_wp2_with fail
  have C2 := get_any A1 3 c1 _ 1 w1 hB1 (by omega) hc1 hm1 (by omega) (by omega)
  rw [show Code.getN [7, 172, 2] 1 = (300, 3, 0) by decide +kernel] at C2
  refine C2.mono ?_
  rintro e w2 ⟨rfl, rfl⟩
  clear C2
  unfold got
  go_wp2_with fail
  have C3 := putl_any none (some ⟨w1.heap.size, 0, none⟩) 0 0 2 2 [] [5, 300] _ (Elems.nil _ _) (ints_new w1 [5, 300] 2 rfl) (by omega) (by omega) (by intro x hx; simp at hx; omega)
  unfold PutPost at C3
  rw [show okL [5, 300] = true by decide +kernel] at C3
  rw [show ([] ++ listB [5, 300] : List UInt8) = [2, 5, 172, 2] by decide +kernel] at C3
  simp only [if_true] at C3
  refine C3.mono ?_
  rintro e w3 ⟨v3, rfl, hown3, hbel3⟩
  have hb3 : Below w.heap.size w w3 := below_both (below_both hb1 (below_alloc _ _) hb1.size) hbel3 (by have := hb1.size; simp; omega)
  have hB1' : Bytes w3 A1 3 [7, 172, 2] := hB1.below (below_both (below_alloc _ _) hbel3 (by simp))
  obtain ⟨A3, c3, hv3, hB3, hc3, hm3⟩ := hown3.form3 4 rfl
  subst hv3
  clear C3 hown3 hbel3 hB1
  go_wp2_with fail
  have C4 := getl_any A3 4 c3 _ 0 2 w3 hB3 (by omega) hc3 hm3 (by omega) (by omega)
  rw [show getList [2, 5, 172, 2] 0 2 = ([5, 300], 4, 0) by decide +kernel] at C4
  refine C4.mono ?_
  rintro e w4 ⟨v4, rfl, hown4, hbel4⟩
  have hb4 := below_both hb3 hbel4 hb3.size
  obtain ⟨A4, c4, hv4, hB4, hc4, hm4⟩ := hown4.form3 2 rfl
  subst hv4
  clear C4 hown4
  go_wp2_with fail
  have C5 := getl_any A3 4 c3 _ 0 1 w4 (hB3.below hbel4) (by omega) hc3 hm3 (by omega) (by omega)
  rw [show getList [2, 5, 172, 2] 0 1 = ([], 0, 5) by decide +kernel] at C5
  refine C5.mono ?_
  rintro e w5 ⟨v5, rfl, hown5, hbel5⟩
  have hb5 := below_both hb4 hbel5 hb4.size
  clear C5 hown5
  go_wp2_with fail
  have C6 := get_any (some ⟨w5.heap.size, 0, none⟩) 1 1 [128] 0 _ (bytes_new w5 [128] 1 rfl) (by omega) (by omega) (by omega) (by omega) (by omega)
  rw [show Code.getN [128] 0 = (0, 0, 4) by decide +kernel] at C6
  refine C6.mono ?_
  rintro e w6 ⟨rfl, hw6⟩
  subst hw6
  clear C6
  unfold got
  go_wp2_with fail
  have hb6 : Below w.heap.size w (w5.alloc (.cells (u8s [128]).toArray 5)) := below_both hb5 (below_alloc _ _) hb5.size
  have C7 := putl_any none (some ⟨w5.heap.size + 1, 0, none⟩) 0 0 1 1 [] [-1] _ (Elems.nil _ _) (ints_new' (w5.alloc (.cells (u8s [128]).toArray 5)) [-1] 1 (w5.heap.size + 1) rfl (by simp)) (by omega) (by omega) (by intro x hx; simp at hx; omega)
  unfold PutPost at C7
  rw [show okL [-1] = false by decide +kernel] at C7
  simp only [Bool.false_eq_true, if_false] at C7
  refine C7.mono ?_
  rintro e w7 ⟨v7, rfl, hown7, hbel7⟩
  have hx7 : Below w5.heap.size w5 w7 := below_both (below_both (below_alloc _ _) (below_alloc _ _) (by simp)) hbel7 (by simp; omega)
  have hb7 := below_both hb5 hx7 hb5.size
  clear C7 hown7 hbel7 hb6
  have e1 := ((((hB1'.below hbel4).below hbel5).below hx7)).convert c1
  have e3 := (((hB3.below hbel4).below hbel5).below hx7).convert c3
  have hB4' := (hB4.below hbel5).below hx7
  clear hB1' hB3 hB4 hbel4 hbel5 hb1 hb3 hb4 hb5
  go_wp2_with fail
  refine (rints_any A4 (some ⟨w7.heap.size, 0, none⟩) 2 2 c4 2 _ [5, 300] _ (hB4'.below (below_alloc _ _)) (ints_new w7 [5, 300] 2 rfl) (by omega) (by omega)).mono ?_
  rintro e w8 ⟨rfl, q, rfl⟩
  go_wp2_with fail
  go_ret
  exact ⟨rfl, below_drewN' (hb7.trans ((below_alloc _ _).mono hb7.size)) _⟩
end Go.Proofs.Ytbfefjlilmoigaa
