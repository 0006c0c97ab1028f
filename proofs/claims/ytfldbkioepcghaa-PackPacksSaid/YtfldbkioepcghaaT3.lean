/- Walks over pack and the reference: rows compared. -/
import Derived.Test.YtfldbkioepcghaaT2
namespace Go.Proofs.Ytfldbkioepcghaa
open Go.RowKit
set_option linter.unusedVariables false

theorem ne_at {α : Type} [DecidableEq α] {l k : List α} {j : Nat} {x y : α} (h1 : l[j]? = some x) (h2 : k[j]? = some y) (h : x ≠ y) : decide (l = k) = false := by
  rw [decide_eq_false_iff_not]
  rintro rfl
  rw [h1] at h2
  exact h (Option.some.inj h2)
theorem same_take {α : Type} {l k : List α} {j : Nat} {x : α} (h1 : l[j]? = some x) (h2 : k[j]? = some x) (h : l.take j = k.take j) : l.take (j + 1) = k.take (j + 1) := by
  rw [List.take_add_one, List.take_add_one, h1, h2, h]
def EqPost (w : World) (b : Bool) (e : Ending) (w' : World) : Prop := e = .returned (.bool b) ∧ Below w.heap.size w w'

set_option maxHeartbeats 1000000 in
set_option maxRecDepth 100000 in
theorem eq_49 (A B : Option Addr) (n m c d : Nat) (l k : List Int) (w : World) (h1 : In w 1 f1 A n l) (h2 : In w 1 f1 B m k) (hn : n ≤ 9223372036854775807) (hm : m ≤ 9223372036854775807) :
    Calls Try.prog 49 #[.slice A n c, .slice B m d] w (EqPost w (decide (l = k))) := by
  have H1 := hide h1
  have H2 := hide h2
  have l1 := hide h1.1
  have l2 := hide h2.1
  clear h1 h2
  by_cases hne : n = m
  · subst hne
    have t0 : ((n : Int) != (n : Int)) = false := by simp
    go_enter Try.func49, Try.ntmps49
    go_wp2_with fail
    go_loopw [5, 13] (fun _ i wr => ∃ j : Nat, j ≤ n ∧ i = .int .i64 j ∧ Hid (l.take j = k.take j) ∧ Hid (Below w.heap.size w wr)) (fun _ i _ => n - (intOf i).toNat)
    case atStart => exact ⟨0, by omega, rfl, rfl, Below.refl _ _⟩
    case round =>
      obtain ⟨j, hj, rfl, ht, hb⟩ := hrel
      by_cases hlt : j < n
      · have hlt' : decide ((j : Int) < (n : Int)) = true := by simp; omega
        have hltp : (j : Int) < (n : Int) := by omega
        obtain ⟨b, o, x, rfl, hx, p0⟩ := (H1.out.below hb.out).at1 hlt
        obtain ⟨b', o', y, rfl, hy, q0⟩ := (H2.out.below hb.out).at1 hlt
        have X0 : ∀ W, Ext wr W → W.cell? ⟨b, o + j, none⟩ = some (.int .i64 x) := fun W hW => (hW.cell (cell_lt p0)).trans p0
        have Y0 : ∀ W, Ext wr W → W.cell? ⟨b', o' + j, none⟩ = some (.int .i64 y) := fun W hW => (hW.cell (cell_lt q0)).trans q0
        have hbd : Hid (Below w.heap.size w wr.drew) := hb.out.drew
        have hX := hide hx
        have hY := hide hy
        clear p0 q0 hx hy
        go_wp2_with fail
        by_cases hxy : x = y
        · have ht2 : Hid (l.take (j + 1) = k.take (j + 1)) := same_take hX.out (hxy ▸ hY.out) ht.out
          have t1 : ((x : Int) != (y : Int)) = false := by simp [hxy]
          clear hX hY hxy ht
          refine wp_region_seq [(0, false), (1, false), (2, false), (3, false), (4, false), (5, false), (6, false), (7, false), (8, false)]
            (by kernel_rfl) (by kernel_rfl) (by kernel_rfl) rfl (by kernel_rfl) (fun _ _ d _ _ h => by cases d <;> exact h) ?_
          simp only [List.map_cons, List.map_nil, List.getElem?_cons_succ, List.getElem?_cons_zero, Option.getD_some]
          iterate 9 (refine wpSeq_take rfl rfl (fun W hW => (by have eX0 := X0 W hW; have eY0 := Y0 W hW; go_simp; with_reducible rfl)) ?_; simp only [List.setIfInBounds_toArray, List.set_cons_zero, List.set_cons_succ])
          refine wpSeq_nil ?_
          clear X0 Y0
          go_wp2_with fail
          exact ⟨⟨j + 1, by omega, by go_num, ht2, hbd⟩, by simp [intOf]; omega⟩
        · have hf : Hid (decide (l = k) = false) := ne_at hX.out hY.out hxy
          have t1 : ((x : Int) != (y : Int)) = true := by simpa using hxy
          clear hX hY hxy ht
          refine wp_region_seq [(0, false), (1, false), (2, false), (3, false), (4, false), (5, false), (6, false), (7, false), (8, false)]
            (by kernel_rfl) (by kernel_rfl) (by kernel_rfl) rfl (by kernel_rfl) (fun _ _ d _ _ h => by cases d <;> exact h) ?_
          simp only [List.map_cons, List.map_nil, List.getElem?_cons_succ, List.getElem?_cons_zero, Option.getD_some]
          iterate 9 (refine wpSeq_take rfl rfl (fun W hW => (by have eX0 := X0 W hW; have eY0 := Y0 W hW; go_simp; with_reducible rfl)) ?_; simp only [List.setIfInBounds_toArray, List.set_cons_zero, List.set_cons_succ])
          refine wpSeq_nil ?_
          clear X0 Y0
          go_wp2_with fail
          go_ret
          exact ⟨by rw [hf.out]; rfl, hbd.out⟩
      · have hlt' : decide ((j : Int) < (n : Int)) = false := by simp; omega
        have hf : Hid (decide (l = k) = true) := by
          show _ = _
          have := ht.out
          rw [List.take_of_length_le (by rw [l1.out]; omega), List.take_of_length_le (by rw [l2.out]; omega)] at this
          rw [this]
          simp
        go_wp2_with fail
        go_ret
        exact ⟨by rw [hf.out]; rfl, hb.out⟩
  · have hf : Hid (decide (l = k) = false) := by
      show _ = _
      rw [decide_eq_false_iff_not]
      rintro rfl
      exact hne (l1.out.symm.trans l2.out)
    have t0 : ((n : Int) != (m : Int)) = true := by simp; omega
    go_enter Try.func49, Try.ntmps49
    go_wp2_with fail
    go_ret
    exact ⟨by rw [hf.out]; rfl, Below.refl _ _⟩

set_option maxHeartbeats 1000000 in
set_option maxRecDepth 100000 in
theorem eq_51 (A B : Option Addr) (n m c d : Nat) (l k : List (Int × Int × Int)) (w : World) (h1 : In w 3 f3 A n l) (h2 : In w 3 f3 B m k) (hn : n ≤ 9223372036854775807) (hm : m ≤ 9223372036854775807) :
    Calls Try.prog 51 #[.slice A n c, .slice B m d] w (EqPost w (decide (l = k))) := by
  have H1 := hide h1
  have H2 := hide h2
  have l1 := hide h1.1
  have l2 := hide h2.1
  clear h1 h2
  by_cases hne : n = m
  · subst hne
    have t0 : ((n : Int) != (n : Int)) = false := by simp
    go_enter Try.func51, Try.ntmps51
    go_wp2_with fail
    go_loopw [5, 13] (fun _ i wr => ∃ j : Nat, j ≤ n ∧ i = .int .i64 j ∧ Hid (l.take j = k.take j) ∧ Hid (Below w.heap.size w wr)) (fun _ i _ => n - (intOf i).toNat)
    case atStart => exact ⟨0, by omega, rfl, rfl, Below.refl _ _⟩
    case round =>
      obtain ⟨j, hj, rfl, ht, hb⟩ := hrel
      by_cases hlt : j < n
      · have hlt' : decide ((j : Int) < (n : Int)) = true := by simp; omega
        have hltp : (j : Int) < (n : Int) := by omega
        obtain ⟨b, o, x, rfl, hx, p0, p1, p2⟩ := (H1.out.below hb.out).at3 hlt
        obtain ⟨b', o', y, rfl, hy, q0, q1, q2⟩ := (H2.out.below hb.out).at3 hlt
        have X0 : ∀ W, Ext wr W → W.cell? ⟨b, o + j * 3, none⟩ = some (.int .i64 x.1) := fun W hW => (hW.cell (cell_lt p0)).trans p0
        have Y0 : ∀ W, Ext wr W → W.cell? ⟨b', o' + j * 3, none⟩ = some (.int .i64 y.1) := fun W hW => (hW.cell (cell_lt q0)).trans q0
        have X1 : ∀ W, Ext wr W → W.cell? ⟨b, o + j * 3 + 1, none⟩ = some (.int .i64 x.2.1) := fun W hW => (hW.cell (cell_lt p1)).trans p1
        have Y1 : ∀ W, Ext wr W → W.cell? ⟨b', o' + j * 3 + 1, none⟩ = some (.int .i64 y.2.1) := fun W hW => (hW.cell (cell_lt q1)).trans q1
        have X2 : ∀ W, Ext wr W → W.cell? ⟨b, o + j * 3 + 2, none⟩ = some (.int .i64 x.2.2) := fun W hW => (hW.cell (cell_lt p2)).trans p2
        have Y2 : ∀ W, Ext wr W → W.cell? ⟨b', o' + j * 3 + 2, none⟩ = some (.int .i64 y.2.2) := fun W hW => (hW.cell (cell_lt q2)).trans q2
        have hbd : Hid (Below w.heap.size w wr.drew) := hb.out.drew
        have hX := hide hx
        have hY := hide hy
        clear p0 p1 p2 q0 q1 q2 hx hy
        go_wp2_with fail
        by_cases hxy : x = y
        · have ht2 : Hid (l.take (j + 1) = k.take (j + 1)) := same_take hX.out (hxy ▸ hY.out) ht.out
          have t1 := neq54 x y
          rw [decide_eq_true hxy] at t1
          simp only [Bool.not_true] at t1
          clear hX hY hxy ht
          refine wp_region_seq [(0, false), (1, false), (2, false), (3, false), (4, false), (5, false), (6, false), (7, false), (8, false)]
            (by kernel_rfl) (by kernel_rfl) (by kernel_rfl) rfl (by kernel_rfl) (fun _ _ d _ _ h => by cases d <;> exact h) ?_
          simp only [List.map_cons, List.map_nil, List.getElem?_cons_succ, List.getElem?_cons_zero, Option.getD_some]
          iterate 9 (refine wpSeq_take rfl rfl (fun W hW => (by have eX0 := X0 W hW; have eY0 := Y0 W hW; have eX1 := X1 W hW; have eY1 := Y1 W hW; have eX2 := X2 W hW; have eY2 := Y2 W hW; go_simp; with_reducible rfl)) ?_; simp only [List.setIfInBounds_toArray, List.set_cons_zero, List.set_cons_succ])
          refine wpSeq_nil ?_
          clear X0 Y0 X1 Y1 X2 Y2
          go_wp2_with fail
          exact ⟨⟨j + 1, by omega, by go_num, ht2, hbd⟩, by simp [intOf]; omega⟩
        · have hf : Hid (decide (l = k) = false) := ne_at hX.out hY.out hxy
          have t1 := neq54 x y
          rw [decide_eq_false hxy] at t1
          simp only [Bool.not_false] at t1
          clear hX hY hxy ht
          refine wp_region_seq [(0, false), (1, false), (2, false), (3, false), (4, false), (5, false), (6, false), (7, false), (8, false)]
            (by kernel_rfl) (by kernel_rfl) (by kernel_rfl) rfl (by kernel_rfl) (fun _ _ d _ _ h => by cases d <;> exact h) ?_
          simp only [List.map_cons, List.map_nil, List.getElem?_cons_succ, List.getElem?_cons_zero, Option.getD_some]
          iterate 9 (refine wpSeq_take rfl rfl (fun W hW => (by have eX0 := X0 W hW; have eY0 := Y0 W hW; have eX1 := X1 W hW; have eY1 := Y1 W hW; have eX2 := X2 W hW; have eY2 := Y2 W hW; go_simp; with_reducible rfl)) ?_; simp only [List.setIfInBounds_toArray, List.set_cons_zero, List.set_cons_succ])
          refine wpSeq_nil ?_
          clear X0 Y0 X1 Y1 X2 Y2
          go_wp2_with fail
          go_ret
          exact ⟨by rw [hf.out]; rfl, hbd.out⟩
      · have hlt' : decide ((j : Int) < (n : Int)) = false := by simp; omega
        have hf : Hid (decide (l = k) = true) := by
          show _ = _
          have := ht.out
          rw [List.take_of_length_le (by rw [l1.out]; omega), List.take_of_length_le (by rw [l2.out]; omega)] at this
          rw [this]
          simp
        go_wp2_with fail
        go_ret
        exact ⟨by rw [hf.out]; rfl, hb.out⟩
  · have hf : Hid (decide (l = k) = false) := by
      show _ = _
      rw [decide_eq_false_iff_not]
      rintro rfl
      exact hne (l1.out.symm.trans l2.out)
    have t0 : ((n : Int) != (m : Int)) = true := by simp; omega
    go_enter Try.func51, Try.ntmps51
    go_wp2_with fail
    go_ret
    exact ⟨by rw [hf.out]; rfl, Below.refl _ _⟩

set_option maxHeartbeats 1000000 in
set_option maxRecDepth 100000 in
theorem eq_53 (A B : Option Addr) (n m c d : Nat) (l k : List (Int × Int)) (w : World) (h1 : In w 2 f2 A n l) (h2 : In w 2 f2 B m k) (hn : n ≤ 9223372036854775807) (hm : m ≤ 9223372036854775807) :
    Calls Try.prog 53 #[.slice A n c, .slice B m d] w (EqPost w (decide (l = k))) := by
  have H1 := hide h1
  have H2 := hide h2
  have l1 := hide h1.1
  have l2 := hide h2.1
  clear h1 h2
  by_cases hne : n = m
  · subst hne
    have t0 : ((n : Int) != (n : Int)) = false := by simp
    go_enter Try.func53, Try.ntmps53
    go_wp2_with fail
    go_loopw [5, 13] (fun _ i wr => ∃ j : Nat, j ≤ n ∧ i = .int .i64 j ∧ Hid (l.take j = k.take j) ∧ Hid (Below w.heap.size w wr)) (fun _ i _ => n - (intOf i).toNat)
    case atStart => exact ⟨0, by omega, rfl, rfl, Below.refl _ _⟩
    case round =>
      obtain ⟨j, hj, rfl, ht, hb⟩ := hrel
      by_cases hlt : j < n
      · have hlt' : decide ((j : Int) < (n : Int)) = true := by simp; omega
        have hltp : (j : Int) < (n : Int) := by omega
        obtain ⟨b, o, x, rfl, hx, p0, p1⟩ := (H1.out.below hb.out).at2 hlt
        obtain ⟨b', o', y, rfl, hy, q0, q1⟩ := (H2.out.below hb.out).at2 hlt
        have X0 : ∀ W, Ext wr W → W.cell? ⟨b, o + j * 2, none⟩ = some (.int .i64 x.1) := fun W hW => (hW.cell (cell_lt p0)).trans p0
        have Y0 : ∀ W, Ext wr W → W.cell? ⟨b', o' + j * 2, none⟩ = some (.int .i64 y.1) := fun W hW => (hW.cell (cell_lt q0)).trans q0
        have X1 : ∀ W, Ext wr W → W.cell? ⟨b, o + j * 2 + 1, none⟩ = some (.int .i64 x.2) := fun W hW => (hW.cell (cell_lt p1)).trans p1
        have Y1 : ∀ W, Ext wr W → W.cell? ⟨b', o' + j * 2 + 1, none⟩ = some (.int .i64 y.2) := fun W hW => (hW.cell (cell_lt q1)).trans q1
        have hbd : Hid (Below w.heap.size w wr.drew) := hb.out.drew
        have hX := hide hx
        have hY := hide hy
        clear p0 p1 q0 q1 hx hy
        go_wp2_with fail
        by_cases hxy : x = y
        · have ht2 : Hid (l.take (j + 1) = k.take (j + 1)) := same_take hX.out (hxy ▸ hY.out) ht.out
          have t1 := neq59 x y
          rw [decide_eq_true hxy] at t1
          simp only [Bool.not_true] at t1
          clear hX hY hxy ht
          refine wp_region_seq [(0, false), (1, false), (2, false), (3, false), (4, false), (5, false), (6, false), (7, false), (8, false)]
            (by kernel_rfl) (by kernel_rfl) (by kernel_rfl) rfl (by kernel_rfl) (fun _ _ d _ _ h => by cases d <;> exact h) ?_
          simp only [List.map_cons, List.map_nil, List.getElem?_cons_succ, List.getElem?_cons_zero, Option.getD_some]
          iterate 9 (refine wpSeq_take rfl rfl (fun W hW => (by have eX0 := X0 W hW; have eY0 := Y0 W hW; have eX1 := X1 W hW; have eY1 := Y1 W hW; go_simp; with_reducible rfl)) ?_; simp only [List.setIfInBounds_toArray, List.set_cons_zero, List.set_cons_succ])
          refine wpSeq_nil ?_
          clear X0 Y0 X1 Y1
          go_wp2_with fail
          exact ⟨⟨j + 1, by omega, by go_num, ht2, hbd⟩, by simp [intOf]; omega⟩
        · have hf : Hid (decide (l = k) = false) := ne_at hX.out hY.out hxy
          have t1 := neq59 x y
          rw [decide_eq_false hxy] at t1
          simp only [Bool.not_false] at t1
          clear hX hY hxy ht
          refine wp_region_seq [(0, false), (1, false), (2, false), (3, false), (4, false), (5, false), (6, false), (7, false), (8, false)]
            (by kernel_rfl) (by kernel_rfl) (by kernel_rfl) rfl (by kernel_rfl) (fun _ _ d _ _ h => by cases d <;> exact h) ?_
          simp only [List.map_cons, List.map_nil, List.getElem?_cons_succ, List.getElem?_cons_zero, Option.getD_some]
          iterate 9 (refine wpSeq_take rfl rfl (fun W hW => (by have eX0 := X0 W hW; have eY0 := Y0 W hW; have eX1 := X1 W hW; have eY1 := Y1 W hW; go_simp; with_reducible rfl)) ?_; simp only [List.setIfInBounds_toArray, List.set_cons_zero, List.set_cons_succ])
          refine wpSeq_nil ?_
          clear X0 Y0 X1 Y1
          go_wp2_with fail
          go_ret
          exact ⟨by rw [hf.out]; rfl, hbd.out⟩
      · have hlt' : decide ((j : Int) < (n : Int)) = false := by simp; omega
        have hf : Hid (decide (l = k) = true) := by
          show _ = _
          have := ht.out
          rw [List.take_of_length_le (by rw [l1.out]; omega), List.take_of_length_le (by rw [l2.out]; omega)] at this
          rw [this]
          simp
        go_wp2_with fail
        go_ret
        exact ⟨by rw [hf.out]; rfl, hb.out⟩
  · have hf : Hid (decide (l = k) = false) := by
      show _ = _
      rw [decide_eq_false_iff_not]
      rintro rfl
      exact hne (l1.out.symm.trans l2.out)
    have t0 : ((n : Int) != (m : Int)) = true := by simp; omega
    go_enter Try.func53, Try.ntmps53
    go_wp2_with fail
    go_ret
    exact ⟨by rw [hf.out]; rfl, Below.refl _ _⟩

set_option maxHeartbeats 1000000 in
set_option maxRecDepth 100000 in
theorem eq_35 (A B : Option Addr) (n m c d : Nat) (l k : List (Int × Int × Int)) (w : World) (h1 : In w 3 f3 A n l) (h2 : In w 3 f3 B m k) (hn : n ≤ 9223372036854775807) (hm : m ≤ 9223372036854775807) :
    Calls Try.prog 35 #[.slice A n c, .slice B m d] w (EqPost w (decide (l = k))) := by
  have H1 := hide h1
  have H2 := hide h2
  have l1 := hide h1.1
  have l2 := hide h2.1
  clear h1 h2
  by_cases hne : n = m
  · subst hne
    have t0 : ((n : Int) != (n : Int)) = false := by simp
    go_enter Try.func35, Try.ntmps35
    go_wp2_with fail
    go_loopw [5] (fun i wr => ∃ j : Nat, j ≤ n ∧ i = .int .i64 j ∧ Hid (l.take j = k.take j) ∧ Hid (Below w.heap.size w wr)) (fun i _ => n - (intOf i).toNat)
    case atStart => exact ⟨0, by omega, rfl, rfl, Below.refl _ _⟩
    case round =>
      obtain ⟨j, hj, rfl, ht, hb⟩ := hrel
      by_cases hlt : j < n
      · have hlt' : decide ((j : Int) < (n : Int)) = true := by simp; omega
        have hltp : (j : Int) < (n : Int) := by omega
        obtain ⟨b, o, x, rfl, hx, p0, p1, p2⟩ := (H1.out.below hb.out).at3 hlt
        obtain ⟨b', o', y, rfl, hy, q0, q1, q2⟩ := (H2.out.below hb.out).at3 hlt
        have X0 : ∀ W, Ext wr W → W.cell? ⟨b, o + j * 3, none⟩ = some (.int .i64 x.1) := fun W hW => (hW.cell (cell_lt p0)).trans p0
        have Y0 : ∀ W, Ext wr W → W.cell? ⟨b', o' + j * 3, none⟩ = some (.int .i64 y.1) := fun W hW => (hW.cell (cell_lt q0)).trans q0
        have X1 : ∀ W, Ext wr W → W.cell? ⟨b, o + j * 3 + 1, none⟩ = some (.int .i64 x.2.1) := fun W hW => (hW.cell (cell_lt p1)).trans p1
        have Y1 : ∀ W, Ext wr W → W.cell? ⟨b', o' + j * 3 + 1, none⟩ = some (.int .i64 y.2.1) := fun W hW => (hW.cell (cell_lt q1)).trans q1
        have X2 : ∀ W, Ext wr W → W.cell? ⟨b, o + j * 3 + 2, none⟩ = some (.int .i64 x.2.2) := fun W hW => (hW.cell (cell_lt p2)).trans p2
        have Y2 : ∀ W, Ext wr W → W.cell? ⟨b', o' + j * 3 + 2, none⟩ = some (.int .i64 y.2.2) := fun W hW => (hW.cell (cell_lt q2)).trans q2
        have hbd : Hid (Below w.heap.size w wr.drew) := hb.out.drew
        have hX := hide hx
        have hY := hide hy
        clear p0 p1 p2 q0 q1 q2 hx hy
        go_wp2_with fail
        by_cases hxy : x = y
        · have ht2 : Hid (l.take (j + 1) = k.take (j + 1)) := same_take hX.out (hxy ▸ hY.out) ht.out
          have t1 := neq54 x y
          rw [decide_eq_true hxy] at t1
          simp only [Bool.not_true] at t1
          clear hX hY hxy ht
          refine wp_region_seq [(0, false), (1, false), (2, false), (3, false), (4, false), (5, false), (6, false), (7, false), (8, false)]
            (by kernel_rfl) (by kernel_rfl) (by kernel_rfl) rfl (by kernel_rfl) (fun _ _ d _ _ h => by cases d <;> exact h) ?_
          simp only [List.map_cons, List.map_nil, List.getElem?_cons_succ, List.getElem?_cons_zero, Option.getD_some]
          iterate 9 (refine wpSeq_take rfl rfl (fun W hW => (by have eX0 := X0 W hW; have eY0 := Y0 W hW; have eX1 := X1 W hW; have eY1 := Y1 W hW; have eX2 := X2 W hW; have eY2 := Y2 W hW; go_simp; with_reducible rfl)) ?_; simp only [List.setIfInBounds_toArray, List.set_cons_zero, List.set_cons_succ])
          refine wpSeq_nil ?_
          clear X0 Y0 X1 Y1 X2 Y2
          go_wp2_with fail
          exact ⟨⟨j + 1, by omega, by go_num, ht2, hbd⟩, by simp [intOf]; omega⟩
        · have hf : Hid (decide (l = k) = false) := ne_at hX.out hY.out hxy
          have t1 := neq54 x y
          rw [decide_eq_false hxy] at t1
          simp only [Bool.not_false] at t1
          clear hX hY hxy ht
          refine wp_region_seq [(0, false), (1, false), (2, false), (3, false), (4, false), (5, false), (6, false), (7, false), (8, false)]
            (by kernel_rfl) (by kernel_rfl) (by kernel_rfl) rfl (by kernel_rfl) (fun _ _ d _ _ h => by cases d <;> exact h) ?_
          simp only [List.map_cons, List.map_nil, List.getElem?_cons_succ, List.getElem?_cons_zero, Option.getD_some]
          iterate 9 (refine wpSeq_take rfl rfl (fun W hW => (by have eX0 := X0 W hW; have eY0 := Y0 W hW; have eX1 := X1 W hW; have eY1 := Y1 W hW; have eX2 := X2 W hW; have eY2 := Y2 W hW; go_simp; with_reducible rfl)) ?_; simp only [List.setIfInBounds_toArray, List.set_cons_zero, List.set_cons_succ])
          refine wpSeq_nil ?_
          clear X0 Y0 X1 Y1 X2 Y2
          go_wp2_with fail
          go_ret
          exact ⟨by rw [hf.out]; rfl, hbd.out⟩
      · have hlt' : decide ((j : Int) < (n : Int)) = false := by simp; omega
        have hf : Hid (decide (l = k) = true) := by
          show _ = _
          have := ht.out
          rw [List.take_of_length_le (by rw [l1.out]; omega), List.take_of_length_le (by rw [l2.out]; omega)] at this
          rw [this]
          simp
        go_wp2_with fail
        go_ret
        exact ⟨by rw [hf.out]; rfl, hb.out⟩
  · have hf : Hid (decide (l = k) = false) := by
      show _ = _
      rw [decide_eq_false_iff_not]
      rintro rfl
      exact hne (l1.out.symm.trans l2.out)
    have t0 : ((n : Int) != (m : Int)) = true := by simp; omega
    go_enter Try.func35, Try.ntmps35
    go_wp2_with fail
    go_ret
    exact ⟨by rw [hf.out]; rfl, Below.refl _ _⟩

set_option maxHeartbeats 1000000 in
set_option maxRecDepth 100000 in
theorem eq_36 (A B : Option Addr) (n m c d : Nat) (l k : List (Int × Int)) (w : World) (h1 : In w 2 f2 A n l) (h2 : In w 2 f2 B m k) (hn : n ≤ 9223372036854775807) (hm : m ≤ 9223372036854775807) :
    Calls Try.prog 36 #[.slice A n c, .slice B m d] w (EqPost w (decide (l = k))) := by
  have H1 := hide h1
  have H2 := hide h2
  have l1 := hide h1.1
  have l2 := hide h2.1
  clear h1 h2
  by_cases hne : n = m
  · subst hne
    have t0 : ((n : Int) != (n : Int)) = false := by simp
    go_enter Try.func36, Try.ntmps36
    go_wp2_with fail
    go_loopw [5] (fun i wr => ∃ j : Nat, j ≤ n ∧ i = .int .i64 j ∧ Hid (l.take j = k.take j) ∧ Hid (Below w.heap.size w wr)) (fun i _ => n - (intOf i).toNat)
    case atStart => exact ⟨0, by omega, rfl, rfl, Below.refl _ _⟩
    case round =>
      obtain ⟨j, hj, rfl, ht, hb⟩ := hrel
      by_cases hlt : j < n
      · have hlt' : decide ((j : Int) < (n : Int)) = true := by simp; omega
        have hltp : (j : Int) < (n : Int) := by omega
        obtain ⟨b, o, x, rfl, hx, p0, p1⟩ := (H1.out.below hb.out).at2 hlt
        obtain ⟨b', o', y, rfl, hy, q0, q1⟩ := (H2.out.below hb.out).at2 hlt
        have X0 : ∀ W, Ext wr W → W.cell? ⟨b, o + j * 2, none⟩ = some (.int .i64 x.1) := fun W hW => (hW.cell (cell_lt p0)).trans p0
        have Y0 : ∀ W, Ext wr W → W.cell? ⟨b', o' + j * 2, none⟩ = some (.int .i64 y.1) := fun W hW => (hW.cell (cell_lt q0)).trans q0
        have X1 : ∀ W, Ext wr W → W.cell? ⟨b, o + j * 2 + 1, none⟩ = some (.int .i64 x.2) := fun W hW => (hW.cell (cell_lt p1)).trans p1
        have Y1 : ∀ W, Ext wr W → W.cell? ⟨b', o' + j * 2 + 1, none⟩ = some (.int .i64 y.2) := fun W hW => (hW.cell (cell_lt q1)).trans q1
        have hbd : Hid (Below w.heap.size w wr.drew) := hb.out.drew
        have hX := hide hx
        have hY := hide hy
        clear p0 p1 q0 q1 hx hy
        go_wp2_with fail
        by_cases hxy : x = y
        · have ht2 : Hid (l.take (j + 1) = k.take (j + 1)) := same_take hX.out (hxy ▸ hY.out) ht.out
          have t1 := neq59 x y
          rw [decide_eq_true hxy] at t1
          simp only [Bool.not_true] at t1
          clear hX hY hxy ht
          refine wp_region_seq [(0, false), (1, false), (2, false), (3, false), (4, false), (5, false), (6, false), (7, false), (8, false)]
            (by kernel_rfl) (by kernel_rfl) (by kernel_rfl) rfl (by kernel_rfl) (fun _ _ d _ _ h => by cases d <;> exact h) ?_
          simp only [List.map_cons, List.map_nil, List.getElem?_cons_succ, List.getElem?_cons_zero, Option.getD_some]
          iterate 9 (refine wpSeq_take rfl rfl (fun W hW => (by have eX0 := X0 W hW; have eY0 := Y0 W hW; have eX1 := X1 W hW; have eY1 := Y1 W hW; go_simp; with_reducible rfl)) ?_; simp only [List.setIfInBounds_toArray, List.set_cons_zero, List.set_cons_succ])
          refine wpSeq_nil ?_
          clear X0 Y0 X1 Y1
          go_wp2_with fail
          exact ⟨⟨j + 1, by omega, by go_num, ht2, hbd⟩, by simp [intOf]; omega⟩
        · have hf : Hid (decide (l = k) = false) := ne_at hX.out hY.out hxy
          have t1 := neq59 x y
          rw [decide_eq_false hxy] at t1
          simp only [Bool.not_false] at t1
          clear hX hY hxy ht
          refine wp_region_seq [(0, false), (1, false), (2, false), (3, false), (4, false), (5, false), (6, false), (7, false), (8, false)]
            (by kernel_rfl) (by kernel_rfl) (by kernel_rfl) rfl (by kernel_rfl) (fun _ _ d _ _ h => by cases d <;> exact h) ?_
          simp only [List.map_cons, List.map_nil, List.getElem?_cons_succ, List.getElem?_cons_zero, Option.getD_some]
          iterate 9 (refine wpSeq_take rfl rfl (fun W hW => (by have eX0 := X0 W hW; have eY0 := Y0 W hW; have eX1 := X1 W hW; have eY1 := Y1 W hW; go_simp; with_reducible rfl)) ?_; simp only [List.setIfInBounds_toArray, List.set_cons_zero, List.set_cons_succ])
          refine wpSeq_nil ?_
          clear X0 Y0 X1 Y1
          go_wp2_with fail
          go_ret
          exact ⟨by rw [hf.out]; rfl, hbd.out⟩
      · have hlt' : decide ((j : Int) < (n : Int)) = false := by simp; omega
        have hf : Hid (decide (l = k) = true) := by
          show _ = _
          have := ht.out
          rw [List.take_of_length_le (by rw [l1.out]; omega), List.take_of_length_le (by rw [l2.out]; omega)] at this
          rw [this]
          simp
        go_wp2_with fail
        go_ret
        exact ⟨by rw [hf.out]; rfl, hb.out⟩
  · have hf : Hid (decide (l = k) = false) := by
      show _ = _
      rw [decide_eq_false_iff_not]
      rintro rfl
      exact hne (l1.out.symm.trans l2.out)
    have t0 : ((n : Int) != (m : Int)) = true := by simp; omega
    go_enter Try.func36, Try.ntmps36
    go_wp2_with fail
    go_ret
    exact ⟨by rw [hf.out]; rfl, Below.refl _ _⟩

set_option maxHeartbeats 1000000 in
set_option maxRecDepth 100000 in
theorem eq_37 (A B : Option Addr) (n m c d : Nat) (l k : List Int) (w : World) (h1 : In w 1 f1 A n l) (h2 : In w 1 f1 B m k) (hn : n ≤ 9223372036854775807) (hm : m ≤ 9223372036854775807) :
    Calls Try.prog 37 #[.slice A n c, .slice B m d] w (EqPost w (decide (l = k))) := by
  have H1 := hide h1
  have H2 := hide h2
  have l1 := hide h1.1
  have l2 := hide h2.1
  clear h1 h2
  by_cases hne : n = m
  · subst hne
    have t0 : ((n : Int) != (n : Int)) = false := by simp
    go_enter Try.func37, Try.ntmps37
    go_wp2_with fail
    go_loopw [5] (fun i wr => ∃ j : Nat, j ≤ n ∧ i = .int .i64 j ∧ Hid (l.take j = k.take j) ∧ Hid (Below w.heap.size w wr)) (fun i _ => n - (intOf i).toNat)
    case atStart => exact ⟨0, by omega, rfl, rfl, Below.refl _ _⟩
    case round =>
      obtain ⟨j, hj, rfl, ht, hb⟩ := hrel
      by_cases hlt : j < n
      · have hlt' : decide ((j : Int) < (n : Int)) = true := by simp; omega
        have hltp : (j : Int) < (n : Int) := by omega
        obtain ⟨b, o, x, rfl, hx, p0⟩ := (H1.out.below hb.out).at1 hlt
        obtain ⟨b', o', y, rfl, hy, q0⟩ := (H2.out.below hb.out).at1 hlt
        have X0 : ∀ W, Ext wr W → W.cell? ⟨b, o + j, none⟩ = some (.int .i64 x) := fun W hW => (hW.cell (cell_lt p0)).trans p0
        have Y0 : ∀ W, Ext wr W → W.cell? ⟨b', o' + j, none⟩ = some (.int .i64 y) := fun W hW => (hW.cell (cell_lt q0)).trans q0
        have hbd : Hid (Below w.heap.size w wr.drew) := hb.out.drew
        have hX := hide hx
        have hY := hide hy
        clear p0 q0 hx hy
        go_wp2_with fail
        by_cases hxy : x = y
        · have ht2 : Hid (l.take (j + 1) = k.take (j + 1)) := same_take hX.out (hxy ▸ hY.out) ht.out
          have t1 : ((x : Int) != (y : Int)) = false := by simp [hxy]
          clear hX hY hxy ht
          refine wp_region_seq [(0, false), (1, false), (2, false), (3, false), (4, false), (5, false), (6, false), (7, false), (8, false)]
            (by kernel_rfl) (by kernel_rfl) (by kernel_rfl) rfl (by kernel_rfl) (fun _ _ d _ _ h => by cases d <;> exact h) ?_
          simp only [List.map_cons, List.map_nil, List.getElem?_cons_succ, List.getElem?_cons_zero, Option.getD_some]
          iterate 9 (refine wpSeq_take rfl rfl (fun W hW => (by have eX0 := X0 W hW; have eY0 := Y0 W hW; go_simp; with_reducible rfl)) ?_; simp only [List.setIfInBounds_toArray, List.set_cons_zero, List.set_cons_succ])
          refine wpSeq_nil ?_
          clear X0 Y0
          go_wp2_with fail
          exact ⟨⟨j + 1, by omega, by go_num, ht2, hbd⟩, by simp [intOf]; omega⟩
        · have hf : Hid (decide (l = k) = false) := ne_at hX.out hY.out hxy
          have t1 : ((x : Int) != (y : Int)) = true := by simpa using hxy
          clear hX hY hxy ht
          refine wp_region_seq [(0, false), (1, false), (2, false), (3, false), (4, false), (5, false), (6, false), (7, false), (8, false)]
            (by kernel_rfl) (by kernel_rfl) (by kernel_rfl) rfl (by kernel_rfl) (fun _ _ d _ _ h => by cases d <;> exact h) ?_
          simp only [List.map_cons, List.map_nil, List.getElem?_cons_succ, List.getElem?_cons_zero, Option.getD_some]
          iterate 9 (refine wpSeq_take rfl rfl (fun W hW => (by have eX0 := X0 W hW; have eY0 := Y0 W hW; go_simp; with_reducible rfl)) ?_; simp only [List.setIfInBounds_toArray, List.set_cons_zero, List.set_cons_succ])
          refine wpSeq_nil ?_
          clear X0 Y0
          go_wp2_with fail
          go_ret
          exact ⟨by rw [hf.out]; rfl, hbd.out⟩
      · have hlt' : decide ((j : Int) < (n : Int)) = false := by simp; omega
        have hf : Hid (decide (l = k) = true) := by
          show _ = _
          have := ht.out
          rw [List.take_of_length_le (by rw [l1.out]; omega), List.take_of_length_le (by rw [l2.out]; omega)] at this
          rw [this]
          simp
        go_wp2_with fail
        go_ret
        exact ⟨by rw [hf.out]; rfl, hb.out⟩
  · have hf : Hid (decide (l = k) = false) := by
      show _ = _
      rw [decide_eq_false_iff_not]
      rintro rfl
      exact hne (l1.out.symm.trans l2.out)
    have t0 : ((n : Int) != (m : Int)) = true := by simp; omega
    go_enter Try.func37, Try.ntmps37
    go_wp2_with fail
    go_ret
    exact ⟨by rw [hf.out]; rfl, Below.refl _ _⟩
end Go.Proofs.Ytfldbkioepcghaa
