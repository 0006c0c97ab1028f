/- Walks over corpus and the reference: equal corpora. -/
import Derived.Test.YtbfefjlilmoigaaE4
namespace Go.Proofs.Ytbfefjlilmoigaa
open Go.RowKit
set_option linter.unusedVariables false

set_option maxHeartbeats 1000000 in
set_option maxRecDepth 100000 in
theorem same28_any (A B : Option Addr) (n m c d : Nat) (l k : List Cas) (w : World) (h1 : Cases w A n l) (h2 : Cases w B m k) (hn : n ≤ 9223372036854775807) (hm : m ≤ 9223372036854775807) :
    Calls Try.prog 60 #[.slice A n c, .slice B m d] w fun e w' => e = .returned (.bool (decide (l = k))) ∧ Below w.heap.size w w' := by
  have H1 := hide h1
  have H2 := hide h2
  have l1 := hide h1.1
  have l2 := hide h2.1
  clear h1 h2
  by_cases hne : n = m
  · subst hne
    have t0 : ((n : Int) != (n : Int)) = false := by simp
    go_enter Try.func60, Try.ntmps60
    go_wp2_with fail
    go_loopw [5] (fun i wr => ∃ j : Nat, j ≤ n ∧ i = .int .i64 j ∧ Hid (l.take j = k.take j) ∧ Hid (Below w.heap.size w wr)) (fun i _ => n - (intOf i).toNat)
    case atStart => exact ⟨0, by omega, rfl, rfl, Below.refl _ _⟩
    case round =>
      obtain ⟨j, hj, rfl, ht, hbr⟩ := hrel
      by_cases hlt : j < n
      · have hlt' : decide ((j : Int) < (n : Int)) = true := by simp; omega
        have hltp : (j : Int) < (n : Int) := by omega
        obtain ⟨b, o, x, rfl, hx, A', c', k1, k2, k3, k4⟩ := (H1.out.below hbr.out).at_ hlt
        obtain ⟨b', o', y, rfl, hy, B', d', q1, q2, q3, q4⟩ := (H2.out.below hbr.out).at_ hlt
        have X0 : ∀ W, Ext wr W → W.cell? ⟨b, o + j * 3, none⟩ = some (.int .i64 x.kind) := fun W hW => (hW.cell (cell_lt k1)).trans k1
        have X1 : ∀ W, Ext wr W → W.cell? ⟨b, o + j * 3 + 1, none⟩ = some (.int .i64 x.note) := fun W hW => (hW.cell (cell_lt k2)).trans k2
        have X2 : ∀ W, Ext wr W → W.cell? ⟨b, o + j * 3 + 2, none⟩ = some (.slice A' x.word.length c') := fun W hW => (hW.cell (cell_lt k3)).trans k3
        have Y0 : ∀ W, Ext wr W → W.cell? ⟨b', o' + j * 3, none⟩ = some (.int .i64 y.kind) := fun W hW => (hW.cell (cell_lt q1)).trans q1
        have Y1 : ∀ W, Ext wr W → W.cell? ⟨b', o' + j * 3 + 1, none⟩ = some (.int .i64 y.note) := fun W hW => (hW.cell (cell_lt q2)).trans q2
        have Y2 : ∀ W, Ext wr W → W.cell? ⟨b', o' + j * 3 + 2, none⟩ = some (.slice B' y.word.length d') := fun W hW => (hW.cell (cell_lt q3)).trans q3
        have C := one28_any A' B' c' d' x y wr.drew k4 q4
        have hbd : Hid (Below w.heap.size w wr.drew) := hbr.out.drew
        clear k1 k2 k3 k4 q1 q2 q3 q4
        have hX := hide hx
        have hY := hide hy
        clear hx hy
        go_wp2_with fail
        refine wp_region_seq [(0, false), (1, false), (2, false), (3, false), (4, false), (5, false), (6, false), (7, false), (8, true), (9, false)]
          (by kernel_rfl) (by kernel_rfl) (by kernel_rfl) rfl (by kernel_rfl) (fun _ _ d _ _ h => by cases d <;> exact h) ?_
        simp only [List.map_cons, List.map_nil, List.getElem?_cons_succ, List.getElem?_cons_zero, Option.getD_some]
        iterate 8 (refine wpSeq_take rfl rfl (fun W hW => (by have x0 := X0 W hW; have x1 := X1 W hW; have x2 := X2 W hW; have y0 := Y0 W hW; have y1 := Y1 W hW; have y2 := Y2 W hW; go_simp; with_reducible rfl)) ?_; simp only [List.setIfInBounds_toArray, List.set_cons_zero, List.set_cons_succ])
        clear X0 X1 X2 Y0 Y1 Y2
        by_cases hxy : x = y
        · have ht2 : Hid (l.take (j + 1) = k.take (j + 1)) := same_take hX.out (hxy ▸ hY.out) ht.out
          rw [decide_eq_true hxy] at C
          clear hX hY hxy ht
          refine wpSeq_alone rfl (fun K hK => ?_)
          go_wp2_with fail
          refine C.mono ?_
          rintro e w3 ⟨rfl, hb3⟩
          clear C
          have hb4 := hide (below_both hbd.out hb3 hbd.out.size)
          refine hK _ _ w3 (below_both (Ext.drew wr) hb3 (Nat.le_refl _)) (Ext.refl _) ?_
          clear hK K hb3 hbr hbd
          iterate 1 (refine wpSeq_take rfl rfl (fun W hW => (by go_simp; with_reducible rfl)) ?_; simp only [List.setIfInBounds_toArray, List.set_cons_zero, List.set_cons_succ])
          refine wpSeq_nil ?_
          go_wp2_with fail
          exact ⟨⟨j + 1, by omega, by go_num, ht2, hb4⟩, by simp [intOf]; omega⟩
        · have hf : Hid (decide (l = k) = false) := cne_at hX.out hY.out hxy
          rw [decide_eq_false hxy] at C
          clear hX hY hxy ht
          refine wpSeq_alone rfl (fun K hK => ?_)
          go_wp2_with fail
          refine C.mono ?_
          rintro e w3 ⟨rfl, hb3⟩
          clear C
          have hb4 := hide (below_both hbd.out hb3 hbd.out.size)
          refine hK _ _ w3 (below_both (Ext.drew wr) hb3 (Nat.le_refl _)) (Ext.refl _) ?_
          clear hK K hb3 hbr hbd
          iterate 1 (refine wpSeq_take rfl rfl (fun W hW => (by go_simp; with_reducible rfl)) ?_; simp only [List.setIfInBounds_toArray, List.set_cons_zero, List.set_cons_succ])
          refine wpSeq_nil ?_
          go_wp2_with fail
          go_ret
          exact ⟨by rw [hf.out]; rfl, hb4.out⟩
      · have hlt' : decide ((j : Int) < (n : Int)) = false := by simp; omega
        have hf : Hid (decide (l = k) = true) := by
          show _ = _
          have := ht.out
          rw [List.take_of_length_le (by rw [l1.out]; omega), List.take_of_length_le (by rw [l2.out]; omega)] at this
          rw [this]
          simp
        go_wp2_with fail
        go_ret
        exact ⟨by rw [hf.out]; rfl, hbr.out⟩
  · have hf : Hid (decide (l = k) = false) := by
      show _ = _
      rw [decide_eq_false_iff_not]
      rintro rfl
      exact hne (l1.out.symm.trans l2.out)
    have t0 : ((n : Int) != (m : Int)) = true := by simp; omega
    go_enter Try.func60, Try.ntmps60
    go_wp2_with fail
    go_ret
    exact ⟨by rw [hf.out]; rfl, Below.refl _ _⟩

/-- The same corpora? -/
def sameC (g h : Nat) (l k : List Cas) : Bool := decide ((g : Int) = (h : Int)) && decide (l = k)

set_option maxHeartbeats 1000000 in
set_option maxRecDepth 100000 in
theorem same_any (g h : Nat) (A B : Option Addr) (n m c d : Nat) (l k : List Cas) (w : World) (h1 : Cases w A n l) (h2 : Cases w B m k) (hn : n ≤ 9223372036854775807) (hm : m ≤ 9223372036854775807) :
    Calls Try.prog 43 #[.agg #[.int .u32 (g : Int), .slice A n c], .agg #[.int .u32 (h : Int), .slice B m d]] w fun e w' => e = .returned (.bool (sameC g h l k)) ∧ Below w.heap.size w w' := by
  have hb : Hid (Below w.heap.size w ((w.alloc (.cells #[.int .u32 (g : Int), .slice A n c] 37)).alloc (.cells #[.int .u32 (h : Int), .slice B m d] 37))) := ((Below.refl _ _).alloc (Nat.le_refl _) _).alloc (by simp) _
  have r1 : Row ((w.alloc (.cells #[.int .u32 (g : Int), .slice A n c] 37)).alloc (.cells #[.int .u32 (h : Int), .slice B m d] 37)) w.heap.size 37 #[.int .u32 (g : Int), .slice A n c] := (Row.new _ _ _).alloc _
  have r2 : Row ((w.alloc (.cells #[.int .u32 (g : Int), .slice A n c] 37)).alloc (.cells #[.int .u32 (h : Int), .slice B m d] 37)) (w.heap.size + 1) 37 #[.int .u32 (h : Int), .slice B m d] := by
    have := Row.new (w.alloc (.cells #[.int .u32 (g : Int), .slice A n c] 37)) 37 #[.int .u32 (h : Int), .slice B m d]
    simpa using this
  have x0 := (r1.cell 0).trans (show _ = some (.int .u32 (g : Int)) from rfl)
  have x1 := (r1.cell 1).trans (show _ = some (.slice A n c) from rfl)
  have y0 := (r2.cell 0).trans (show _ = some (.int .u32 (h : Int)) from rfl)
  have y1 := (r2.cell 1).trans (show _ = some (.slice B m d) from rfl)
  have C := eqF_any A B n m c d l k ((w.alloc (.cells #[.int .u32 (g : Int), .slice A n c] 37)).alloc (.cells #[.int .u32 (h : Int), .slice B m d] 37)) (h1.below hb.out) (h2.below hb.out) hn hm
  clear h1 h2 r1 r2
  by_cases hgh : (g : Int) = (h : Int)
  · have hf : Hid (sameC g h l k = decide (l = k)) := by show _ = _; unfold sameC; rw [decide_eq_true hgh]; rfl
    have t0 : ((g : Int) == (h : Int)) = true := by simpa using hgh
    clear hgh
    go_enter Try.func43, Try.ntmps43
    go_wp2_with fail
    refine C.mono ?_
    rintro e w2 ⟨rfl, hb2⟩
    have hb3 := hide (below_both hb.out hb2 hb.out.size)
    clear C hb2
    go_wp2_with fail
    go_ret
    exact ⟨by rw [hf.out]; rfl, hb3.out⟩
  · have hf : Hid (sameC g h l k = false) := by show _ = _; unfold sameC; rw [decide_eq_false hgh]; rfl
    have t0 : ((g : Int) == (h : Int)) = false := by simpa using hgh
    clear hgh C
    go_enter Try.func43, Try.ntmps43
    go_wp2_with fail
    go_ret
    exact ⟨by rw [hf.out]; rfl, hb.out⟩

set_option maxHeartbeats 1000000 in
set_option maxRecDepth 100000 in
theorem rsame_any (g h : Nat) (A B : Option Addr) (n m c d : Nat) (l k : List Cas) (w : World) (h1 : Cases w A n l) (h2 : Cases w B m k) (hn : n ≤ 9223372036854775807) (hm : m ≤ 9223372036854775807) :
    Calls Try.prog 44 #[.agg #[.int .u32 (g : Int), .slice A n c], .agg #[.int .u32 (h : Int), .slice B m d]] w fun e w' => e = .returned (.bool (sameC g h l k)) ∧ Below w.heap.size w w' := by
  have hb : Hid (Below w.heap.size w ((w.alloc (.cells #[.int .u32 (g : Int), .slice A n c] 37)).alloc (.cells #[.int .u32 (h : Int), .slice B m d] 37))) := ((Below.refl _ _).alloc (Nat.le_refl _) _).alloc (by simp) _
  have r1 : Row ((w.alloc (.cells #[.int .u32 (g : Int), .slice A n c] 37)).alloc (.cells #[.int .u32 (h : Int), .slice B m d] 37)) w.heap.size 37 #[.int .u32 (g : Int), .slice A n c] := (Row.new _ _ _).alloc _
  have r2 : Row ((w.alloc (.cells #[.int .u32 (g : Int), .slice A n c] 37)).alloc (.cells #[.int .u32 (h : Int), .slice B m d] 37)) (w.heap.size + 1) 37 #[.int .u32 (h : Int), .slice B m d] := by
    have := Row.new (w.alloc (.cells #[.int .u32 (g : Int), .slice A n c] 37)) 37 #[.int .u32 (h : Int), .slice B m d]
    simpa using this
  have x0 := (r1.cell 0).trans (show _ = some (.int .u32 (g : Int)) from rfl)
  have x1 := (r1.cell 1).trans (show _ = some (.slice A n c) from rfl)
  have y0 := (r2.cell 0).trans (show _ = some (.int .u32 (h : Int)) from rfl)
  have y1 := (r2.cell 1).trans (show _ = some (.slice B m d) from rfl)
  have C := same28_any A B n m c d l k ((w.alloc (.cells #[.int .u32 (g : Int), .slice A n c] 37)).alloc (.cells #[.int .u32 (h : Int), .slice B m d] 37)) (h1.below hb.out) (h2.below hb.out) hn hm
  clear h1 h2 r1 r2
  by_cases hgh : (g : Int) = (h : Int)
  · have hf : Hid (sameC g h l k = decide (l = k)) := by show _ = _; unfold sameC; rw [decide_eq_true hgh]; rfl
    have t0 : ((g : Int) == (h : Int)) = true := by simpa using hgh
    clear hgh
    go_enter Try.func44, Try.ntmps44
    go_wp2_with fail
    refine C.mono ?_
    rintro e w2 ⟨rfl, hb2⟩
    have hb3 := hide (below_both hb.out hb2 hb.out.size)
    clear C hb2
    go_wp2_with fail
    go_ret
    exact ⟨by rw [hf.out]; rfl, hb3.out⟩
  · have hf : Hid (sameC g h l k = false) := by show _ = _; unfold sameC; rw [decide_eq_false hgh]; rfl
    have t0 : ((g : Int) == (h : Int)) = false := by simpa using hgh
    clear hgh C
    go_enter Try.func44, Try.ntmps44
    go_wp2_with fail
    go_ret
    exact ⟨by rw [hf.out]; rfl, hb.out⟩
end Go.Proofs.Ytbfefjlilmoigaa
