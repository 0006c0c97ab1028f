/- Walks over corpus: equal rows of cases. -/
import Derived.Test.YtbfefjlilmoigaaE3
namespace Go.Proofs.Ytbfefjlilmoigaa
open Go.RowKit
set_option linter.unusedVariables false

theorem cne_at {l k : List Cas} {j : Nat} {x y : Cas} (h1 : l[j]? = some x) (h2 : k[j]? = some y) (h : x ≠ y) : decide (l = k) = false := by
  rw [decide_eq_false_iff_not]
  rintro rfl
  rw [h1] at h2
  exact h (Option.some.inj h2)

set_option maxHeartbeats 1000000 in
set_option maxRecDepth 100000 in
theorem eqF_any (A B : Option Addr) (n m c d : Nat) (l k : List Cas) (w : World) (h1 : Cases w A n l) (h2 : Cases w B m k) (hn : n ≤ 9223372036854775807) (hm : m ≤ 9223372036854775807) :
    Calls Try.prog 57 #[.slice A n c, .slice B m d, .func (.func 58) #[] #[]] w fun e w' => e = .returned (.bool (decide (l = k))) ∧ Below w.heap.size w w' := by
  have H1 := hide h1
  have H2 := hide h2
  have l1 := hide h1.1
  have l2 := hide h2.1
  clear h1 h2
  by_cases hne : n = m
  · subst hne
    have t0 : ((n : Int) != (n : Int)) = false := by simp
    go_enter Try.func57, Try.ntmps57
    go_wp2_with fail
    go_loopw [7, 8, 9, 17] (fun _ _ _ i wr => ∃ j : Nat, j ≤ n ∧ i = .int .i64 j ∧ Hid (l.take j = k.take j) ∧ Hid (Below w.heap.size w wr)) (fun _ _ _ i _ => n - (intOf i).toNat)
    case atStart => exact ⟨0, by omega, rfl, rfl, Below.refl _ _⟩
    case round =>
      obtain ⟨j, hj, rfl, ht, hbr⟩ := hrel
      by_cases hlt : j < n
      · have hlt' : decide ((j : Int) < (n : Int)) = true := by simp; omega
        have hltp : (j : Int) < (n : Int) := by omega
        obtain ⟨b, o, x, rfl, hx, A', c', k1, k2, k3, k4⟩ := (H1.out.below hbr.out).at_ hlt
        have hbr1 : Hid (Below w.heap.size w (wr.alloc (.cells #[.int .i64 x.kind, .int .i64 x.note, .slice A' x.word.length c'] 66))) := hbr.out.alloc hbr.out.size _
        obtain ⟨b', o', y, rfl, hy, B', d', q1, q2, q3, q4⟩ := (H2.out.below hbr1.out).at_ hlt
        have r1 : Row ((wr.alloc (.cells #[.int .i64 x.kind, .int .i64 x.note, .slice A' x.word.length c'] 66)).alloc (.cells #[.int .i64 y.kind, .int .i64 y.note, .slice B' y.word.length d'] 66)) wr.heap.size 66 #[.int .i64 x.kind, .int .i64 x.note, .slice A' x.word.length c'] := (Row.new _ _ _).alloc _
        have r2 : Row ((wr.alloc (.cells #[.int .i64 x.kind, .int .i64 x.note, .slice A' x.word.length c'] 66)).alloc (.cells #[.int .i64 y.kind, .int .i64 y.note, .slice B' y.word.length d'] 66)) (wr.heap.size + 1) 66 #[.int .i64 y.kind, .int .i64 y.note, .slice B' y.word.length d'] := by
          have := Row.new (wr.alloc (.cells #[.int .i64 x.kind, .int .i64 x.note, .slice A' x.word.length c'] 66)) 66 #[.int .i64 y.kind, .int .i64 y.note, .slice B' y.word.length d']
          simpa using this
        have x0 := (r1.cell 0).trans (show _ = some (.int .i64 x.kind) from rfl)
        have x1 := (r1.cell 1).trans (show _ = some (.int .i64 x.note) from rfl)
        have x2 := (r1.cell 2).trans (show _ = some (.slice A' x.word.length c') from rfl)
        have y0 := (r2.cell 0).trans (show _ = some (.int .i64 y.kind) from rfl)
        have y1 := (r2.cell 1).trans (show _ = some (.int .i64 y.note) from rfl)
        have y2 := (r2.cell 2).trans (show _ = some (.slice B' y.word.length d') from rfl)
        have C := eqC_any A' B' c' d' x y ((wr.alloc (.cells #[.int .i64 x.kind, .int .i64 x.note, .slice A' x.word.length c'] 66)).alloc (.cells #[.int .i64 y.kind, .int .i64 y.note, .slice B' y.word.length d'] 66)) (k4.keep fun p hp => ((Below.refl wr.heap.size wr).alloc (Nat.le_refl _) _ |>.alloc (by simp) _).cell hp) (q4.keep fun p hp => (below_alloc _ _).cell hp)
        have hbr2 : Hid (Below w.heap.size w ((wr.alloc (.cells #[.int .i64 x.kind, .int .i64 x.note, .slice A' x.word.length c'] 66)).alloc (.cells #[.int .i64 y.kind, .int .i64 y.note, .slice B' y.word.length d'] 66))) := hbr1.out.alloc hbr1.out.size _
        clear k4 q4 r1 r2 hbr hbr1
        by_cases hxy : x = y
        · have ht2 : Hid (l.take (j + 1) = k.take (j + 1)) := same_take hx (hxy ▸ hy) ht.out
          rw [decide_eq_true hxy] at C
          clear hx hy hxy ht
          go_wp2_with fail
          refine C.mono ?_
          rintro e w3 ⟨rfl, hb3⟩
          clear C
          have hb4 := hide (below_both hbr2.out hb3 hbr2.out.size)
          clear hb3 hbr2
          go_wp2_with fail
          exact ⟨⟨j + 1, by omega, by go_num, ht2, hb4⟩, by simp [intOf]; omega⟩
        · have hf : Hid (decide (l = k) = false) := cne_at hx hy hxy
          rw [decide_eq_false hxy] at C
          clear hx hy hxy ht
          go_wp2_with fail
          refine C.mono ?_
          rintro e w3 ⟨rfl, hb3⟩
          clear C
          have hb4 := hide (below_both hbr2.out hb3 hbr2.out.size)
          clear hb3 hbr2
          go_wp2_with fail
          go_ret
          exact ⟨by rw [hf.out]; rfl, hb4.out⟩
      · have hlt' : decide ((j : Int) < (n : Int)) = false := by simp; omega
        have hf : Hid (decide (l = k) = true) := by
          show _ = _
          have := ht.out
          rw [List.take_of_length_le (by rw [l1.out]; omega), List.take_of_length_le (by rw [l2.out]; omega)] at this
          rw [this]
          simp
        go_wp2_with fail
        go_ret
        exact ⟨by rw [hf.out]; rfl, hbr.out⟩
  · have hf : Hid (decide (l = k) = false) := by
      show _ = _
      rw [decide_eq_false_iff_not]
      rintro rfl
      exact hne (l1.out.symm.trans l2.out)
    have t0 : ((n : Int) != (m : Int)) = true := by simp; omega
    go_enter Try.func57, Try.ntmps57
    go_wp2_with fail
    go_ret
    exact ⟨by rw [hf.out]; rfl, Below.refl _ _⟩
end Go.Proofs.Ytbfefjlilmoigaa
