/- Walks over gerundref29: right. -/
import Derived.Test.YtbfefjlilmoigaaC3
namespace Go.Proofs.Ytbfefjlilmoigaa
open Go.RowKit
set_option linter.unusedVariables false

set_option maxHeartbeats 1000000 in
set_option maxRecDepth 100000 in
theorem rright_any (g : Nat) (A : Option Addr) (n c : Nat) (l : List Cas) (w : World) (hl : Cases w A n l) :
    Calls Try.prog 28 #[.agg #[.int .u32 (g : Int), .slice A n c]] w fun e w' => e = .returned (.bool (rightC l)) ∧ Below w.heap.size w w' := by
  have HL := hide (hl.below (below_alloc w (.cells #[.int .u32 (g : Int), .slice A n c] 37)))
  have hlen := hide hl.1
  clear hl
  by_cases h21 : 2000 < n
  · have hgt : decide (2000 < (n : Int)) = true := by simp; omega
    have hres : Hid (rightC l = false) := by show _ = _; unfold rightC; rw [hlen.out]; simp; omega
    go_enter Try.func28, Try.ntmps28
    go_wp2_with fail
    go_ret
    exact ⟨by rw [hres.out]; rfl, below_alloc _ _⟩
  · have hgt : decide (2000 < (n : Int)) = false := by simp; omega
    have hres : Hid (rightC l = l.all okC) := by show _ = _; unfold rightC; rw [hlen.out]; simp; omega
    have hrow : Row (w.alloc (.cells #[.int .u32 (g : Int), .slice A n c] 37)) w.heap.size 37 #[.int .u32 (g : Int), .slice A n c] := Row.new _ _ _
    have c1 : (w.alloc (.cells #[.int .u32 (g : Int), .slice A n c] 37)).cell? ⟨w.heap.size, 1, none⟩ = some (.slice A n c) := (hrow.cell 1).trans rfl
    have hin : Hid (w.heap.size < (w.alloc (.cells #[.int .u32 (g : Int), .slice A n c] 37)).heap.size) := hrow.lt
    clear hrow
    generalize hw1 : w.alloc (.cells #[.int .u32 (g : Int), .slice A n c] 37) = w1 at HL c1 hin
    have hb1 : Hid (Below w.heap.size w w1) := by rw [← hw1]; exact below_alloc _ _
    have hc1 := hide c1
    go_enter Try.func28, Try.ntmps28
    go_wp2_with fail
    clear c1
    go_loopw [3, 4, 5] (fun i _ _ wr => ∃ j : Nat, j ≤ n ∧ i = .int .i64 j ∧ Hid ((l.take j).all okC = true) ∧ Hid (Below w1.heap.size w1 wr)) (fun i _ _ _ => n - (intOf i).toNat)
    case atStart => exact ⟨0, by omega, rfl, rfl, Below.refl _ _⟩
    case round =>
      obtain ⟨j, hj, rfl, ht, hbr⟩ := hrel
      have c1 : wr.cell? ⟨w.heap.size, 1, none⟩ = some (.slice A n c) := (hbr.out.cell hin.out).trans hc1.out
      by_cases hlt : j < n
      · have hlt' : decide ((j : Int) < (n : Int)) = true := by simp; omega
        obtain ⟨b, o, x, hA, hx, hc⟩ := (HL.out.below hbr.out).at_ hlt
        subst hA
        obtain ⟨A', c', k1, k2, k3, k4⟩ := hc
        have Cn := small29_any x.note (wr.alloc (.cells #[.int .i64 x.kind, .int .i64 x.note, .slice A' x.word.length c'] 66))
        have hb2 : Hid (Below w.heap.size w (wr.alloc (.cells #[.int .i64 x.kind, .int .i64 x.note, .slice A' x.word.length c'] 66))) := below_both (below_both hb1.out hbr.out hb1.out.size) (below_alloc _ _) (below_both hb1.out hbr.out hb1.out.size).size
        have hx' := hide hx
        clear hx
        by_cases hk1 : x.kind < 1
        · have hf : Hid (rightC l = false) := by show _ = _; rw [hres.out]; exact all_false hx'.out (by simp [okC, okK]; omega)
          have hk1' : decide (x.kind < 1) = true := by simp; omega
          clear Cn
          go_wp2_with fail
          go_ret
          exact ⟨by rw [hf.out]; rfl, hb2.out⟩
        have hk1' : decide (x.kind < 1) = false := by simp; omega
        by_cases hk4 : 4 < x.kind
        · have hf : Hid (rightC l = false) := by show _ = _; rw [hres.out]; exact all_false hx'.out (by simp [okC, okK]; omega)
          have hk4' : decide (4 < x.kind) = true := by simp; omega
          clear Cn
          go_wp2_with fail
          go_ret
          exact ⟨by rw [hf.out]; rfl, hb2.out⟩
        have hk4' : decide (4 < x.kind) = false := by simp; omega
        cases hn : okI x.note with
        | false =>
          have hf : Hid (rightC l = false) := by show _ = _; rw [hres.out]; exact all_false hx'.out (by simp [okC, hn])
          rw [hn] at Cn
          go_wp2_with fail
          refine Cn.mono ?_
          rintro e w3 ⟨rfl, rfl⟩
          clear Cn
          go_wp2_with fail
          go_ret
          exact ⟨by rw [hf.out]; rfl, hb2.out⟩
        | true =>
          rw [hn] at Cn
          by_cases h3 : 300 < x.word.length
          · have hf : Hid (rightC l = false) := by show _ = _; rw [hres.out]; exact all_false hx'.out (by simp [okC]; omega)
            have h3' : decide (300 < (x.word.length : Int)) = true := by simp; omega
            go_wp2_with fail
            refine Cn.mono ?_
            rintro e w3 ⟨rfl, rfl⟩
            clear Cn
            go_wp2_with fail
            go_ret
            exact ⟨by rw [hf.out]; rfl, hb2.out⟩
          · have h3' : decide (300 < (x.word.length : Int)) = false := by simp; omega
            have KW := hide (Elems.below k4.1 (below_alloc wr (.cells #[.int .i64 x.kind, .int .i64 x.note, .slice A' x.word.length c'] 66)))
            go_wp2_with fail
            refine Cn.mono ?_
            rintro e w3 ⟨rfl, rfl⟩
            clear Cn
            go_wp2_with fail
            have hokk : Hid (okK x.kind = true) := by show _ = _; unfold okK; simp; omega
            have hnn := hide hn
            have hr8 : Row (wr.alloc (.cells #[.int .i64 x.kind, .int .i64 x.note, .slice A' x.word.length c'] 66)) wr.heap.size 66 #[.int .i64 x.kind, .int .i64 x.note, .slice A' x.word.length c'] := Row.new _ _ _
            have c8 : (wr.alloc (.cells #[.int .i64 x.kind, .int .i64 x.note, .slice A' x.word.length c'] 66)).cell? ⟨wr.heap.size, 2, none⟩ = some (.slice A' x.word.length c') := (hr8.cell 2).trans rfl
            have hc18 : (wr.alloc (.cells #[.int .i64 x.kind, .int .i64 x.note, .slice A' x.word.length c'] 66)).cell? ⟨w.heap.size, 1, none⟩ = some (.slice (some ⟨b, o, none⟩) n c) := ((below_alloc wr _).cell (cell_lt c1)).trans c1
            have hbr2 : Hid (Below w1.heap.size w1 (wr.alloc (.cells #[.int .i64 x.kind, .int .i64 x.note, .slice A' x.word.length c'] 66))) := below_both hbr.out (below_alloc _ _) hbr.out.size
            clear k1 k2 k3 k4 hr8 hn c1
            generalize wr.alloc (.cells #[.int .i64 x.kind, .int .i64 x.note, .slice A' x.word.length c'] 66) = w4 at *
            go_loop [5] (fun i => ∃ k : Nat, k ≤ x.word.length ∧ i = .int .i64 k ∧ Hid (okL (x.word.take k) = true)) (fun i => x.word.length - (intOf i).toNat)
            case atStart => exact ⟨0, by omega, rfl, rfl⟩
            case round =>
              obtain ⟨k, hk, rfl, htk⟩ := hrel
              by_cases hkl : k < x.word.length
              · have hkl' : decide ((k : Int) < (x.word.length : Int)) = true := by simp; omega
                obtain ⟨b', o', z, hA', hz, hcz⟩ := Ints.at_ KW.out hkl
                subst hA'
                have Cz := small29_any z w4
                cases hoz : okI z with
                | false =>
                  have hf : Hid (rightC l = false) := by
                    show _ = _
                    rw [hres.out]
                    exact all_false hx'.out (by simp [okC, okL_false hz hoz])
                  rw [hoz] at Cz
                  clear hz
                  go_wp2_with fail
                  refine Cz.mono ?_
                  rintro e w3 ⟨rfl, rfl⟩
                  clear Cz
                  go_wp2_with fail
                  go_ret
                  exact ⟨by rw [hf.out]; rfl, hb2.out⟩
                | true =>
                  have htk2 : Hid (okL (x.word.take (k + 1)) = true) := okL_take hz hoz htk.out
                  rw [hoz] at Cz
                  clear hz
                  go_wp2_with fail
                  refine Cz.mono ?_
                  rintro e w3 ⟨rfl, rfl⟩
                  clear Cz
                  go_wp2_with fail
                  exact ⟨⟨k + 1, by omega, by go_num, htk2⟩, by simp [intOf]; omega⟩
              · have hkl' : decide ((k : Int) < (x.word.length : Int)) = false := by simp; omega
                have ht2 : Hid ((l.take (j + 1)).all okC = true) := by
                  have hw : okL x.word = true := by
                    have := htk.out
                    rwa [List.take_of_length_le (by omega)] at this
                  exact all_take hx'.out (by simp [okC, hokk.out, hnn.out, hw]; omega) ht.out
                go_wp2_with fail
                exact ⟨⟨j + 1, by omega, by go_num, ht2, hbr2⟩, by simp [intOf]; omega⟩
      · have hlt' : decide ((j : Int) < (n : Int)) = false := by simp; omega
        have hf : Hid (rightC l = true) := by
          show _ = _
          rw [hres.out]
          have := ht.out
          rwa [List.take_of_length_le (by rw [hlen.out]; omega)] at this
        go_wp2_with fail
        go_ret
        exact ⟨by rw [hf.out]; rfl, below_both hb1.out hbr.out hb1.out.size⟩
end Go.Proofs.Ytbfefjlilmoigaa
