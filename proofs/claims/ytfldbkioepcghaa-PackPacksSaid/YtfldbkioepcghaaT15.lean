/- Walks over the reference: a table of one's own. -/
import Derived.Test.YtfldbkioepcghaaT14b
namespace Go.Proofs.Ytfldbkioepcghaa
open Go.RowKit
set_option linter.unusedVariables false

theorem OwnR.inT' {α : Type} {f : α → List Value} {k e base n : Nat} {w : World} {A : Option Addr} {c : Nat} {l : List α} (h : OwnR w base e k f (.slice A n c) l) : InT w e k f A c l := by
  obtain ⟨A', c', he, hi⟩ := h.inT
  injection he with a _ c
  subst a c
  exact hi

def CopyPost (w : World) (t : Tab) (e : Ending) (w' : World) : Prop :=
  ∃ A c B d, e = .returned (.agg #[.slice A t.acts.length c, .slice B t.gots.length d]) ∧ OwnN w' w.heap.size 47 43 2 f2 (.slice A t.acts.length c) t.acts ∧ OwnN w' w.heap.size 30 3 1 f1 (.slice B t.gots.length d) t.gots ∧ Below w.heap.size w w'

set_option maxHeartbeats 2000000 in
set_option maxRecDepth 100000 in
theorem copy17_any (A B : Option Addr) (n m c d : Nat) (t : Tab) (w : World) (ht : TabAt w A B n m t) (hn : n ≤ 310) (hm : m ≤ 310) (ha : ∀ r ∈ t.acts, r.length ≤ 50) (hg : ∀ r ∈ t.gots, r.length ≤ 50) :
    Calls Try.prog 10 #[.agg #[.slice A n c, .slice B m d]] w (CopyPost w t) := by
  have b1 : Hid (Below w.heap.size w (((w.alloc (.cells #[.slice A n c, .slice B m d] 25)).alloc (.cells #[.slice none 0 0, .slice none 0 0] 25)).alloc (.cells #[.slice none 0 0, .slice none 0 0] 25))) := (((Below.refl _ _).alloc (Nat.le_refl _) _).alloc (by simp) _).alloc (by simp; omega) _
  have P1 : Hid (Row (((w.alloc (.cells #[.slice A n c, .slice B m d] 25)).alloc (.cells #[.slice none 0 0, .slice none 0 0] 25)).alloc (.cells #[.slice none 0 0, .slice none 0 0] 25)) w.heap.size 25 #[.slice A n c, .slice B m d]) := ((Row.new _ _ _).alloc _).alloc _
  have P2 : Hid (Row (((w.alloc (.cells #[.slice A n c, .slice B m d] 25)).alloc (.cells #[.slice none 0 0, .slice none 0 0] 25)).alloc (.cells #[.slice none 0 0, .slice none 0 0] 25)) (w.heap.size + 1) 25 #[.slice none 0 0, .slice none 0 0]) := by
    have := (Row.new (w.alloc (.cells #[.slice A n c, .slice B m d] 25)) 25 #[.slice none 0 0, .slice none 0 0]).alloc (.cells #[.slice none 0 0, .slice none 0 0] 25)
    show Row _ _ _ _
    simpa using this
  have P3 : Hid (Row (((w.alloc (.cells #[.slice A n c, .slice B m d] 25)).alloc (.cells #[.slice none 0 0, .slice none 0 0] 25)).alloc (.cells #[.slice none 0 0, .slice none 0 0] 25)) (w.heap.size + 1 + 1) 25 #[.slice none 0 0, .slice none 0 0]) := by
    have := Row.new ((w.alloc (.cells #[.slice A n c, .slice B m d] 25)).alloc (.cells #[.slice none 0 0, .slice none 0 0] 25)) 25 #[.slice none 0 0, .slice none 0 0]
    show Row _ _ _ _
    simpa using this
  have HT := hide ht
  have HA := hide ha
  have HG := hide hg
  have la : Hid (t.acts.length = n) := ht.acts.1
  have lg : Hid (t.gots.length = m) := ht.gots.1
  clear ht ha hg
  go_enter Try.func10, Try.ntmps10
  go_wp2_with fail
  generalize (((w.alloc (.cells #[.slice A n c, .slice B m d] 25)).alloc (.cells #[.slice none 0 0, .slice none 0 0] 25)).alloc (.cells #[.slice none 0 0, .slice none 0 0] 25)) = w1 at *
  go_loopw [4] (fun i wr => ∃ (j : Nat) (A' : Option Addr) (c' : Nat), j ≤ n ∧ i = .int .i64 j ∧ Hid (Row wr w.heap.size 25 #[.slice A n c, .slice B m d]) ∧ Hid (Row wr (w.heap.size + 1) 25 #[.slice none 0 0, .slice none 0 0]) ∧ Hid (Row wr (w.heap.size + 1 + 1) 25 #[.slice A' j c', .slice none 0 0]) ∧
    Hid (OwnN wr w.heap.size 47 43 2 f2 (.slice A' j c') (t.acts.take j)) ∧ Hid (Below w.heap.size w wr)) (fun i _ => n - (intOf i).toNat)
  case atStart => exact ⟨0, none, 0, by omega, rfl, P1, P2, P3, OwnN.nil _ _ _ _ _ _, b1⟩
  case round =>
    obtain ⟨j, A', c', hj, rfl, Q1, Q2, Q3, hN, hb⟩ := hrel
    have x0 := (Q1.out.cell 0).trans (show _ = some (.slice A n c) from rfl)
    by_cases hlt : j < n
    · have hlt' : decide ((j : Int) < (n : Int)) = true := by simp; omega
      have hltp : (j : Int) < (n : Int) := by omega
      obtain ⟨b, o, row, Ax, cx, rfl, hx, z1, z2, z3, z4⟩ := (HT.out.acts.below hb.out).at_ hlt
      have hr50 := HA.out row (List.mem_of_getElem? hx)
      have y0 := (Q3.out.cell 0).trans (show _ = some (.slice A' j c') from rfl)
      have x0' := ((Q1.out.alloc (.cells #[] 43)).cell 0).trans (show _ = some (.slice (some ⟨b, o, none⟩) n c) from rfl)
      have y0' := ((Q3.out.alloc (.cells #[] 43)).cell 0).trans (show _ = some (.slice A' j c') from rfl)
      have z1' : (wr.alloc (.cells #[] 43)).cell? ⟨b, o + j, none⟩ = some (.slice Ax row.length cx) := ((below_alloc wr _).cell (cell_lt z1)).trans z1
      have hE := OwnR.empty wr.drew 43 2 f2
      have hI : In (wr.drew.alloc (.cells #[] 43)) 2 f2 Ax row.length row := (show In wr.drew 2 f2 Ax row.length row from z2).below (below_alloc wr.drew _)
      have hjl : (t.acts.take j).length = j := by rw [List.length_take, la.out]; omega
      have hX := hide hx
      have Q3d : Hid (Row wr.drew (w.heap.size + 1 + 1) 25 #[.slice A' j c', .slice none 0 0]) := Q3
      have hNd : Hid (OwnN wr.drew w.heap.size 47 43 2 f2 (.slice A' j c') (t.acts.take j)) := hN
      clear hx z2
      go_wp2_with fail
      go_region_law (first
        | (refine stepR ti47 (by omega) one2 wr.heap.size hE hI (by simp only [List.length_nil]; omega) (by omega) (by simp) rfl _ _ rfl rfl cx rfl ?_; intro A5 c5 w5 hO5 hb5 hg5; have hw5 := (below_alloc wr.drew (.cells #[] 43)).trans hb5; have hT5 := hO5.inT'; simp only [List.nil_append] at hT5; have hsz5 : w.heap.size ≤ (w5.alloc (.cells #[.slice A5 row.length c5] 47)).heap.size := by { have h1 := hb.out.size; have h2 := hw5.size; simp at h1 h2 ⊢; omega }; have hN5 := hNd.out.below (hw5.alloc hw5.size (.cells #[.slice A5 row.length c5] 47)); have q5 := Q3d.out.below hw5 Q3d.out.lt; have k5 := (q5.cell 0).trans (show _ = some (.slice A' j c') from rfl); have q6 := q5.alloc (.cells #[.slice A5 row.length c5] 47); have k6 := (q6.cell 0).trans (show _ = some (.slice A' j c') from rfl))
        | (refine stepN ti22 (by decide) w.heap.size hN5 (x := row) (Row.new w5 _ _) (hT5.below (below_alloc w5 _)) (by rw [hjl]; omega) (by omega) hsz5 rfl _ _ rfl rfl rfl ?_; intro A7 c7 w7 hN7 hb7 hrow7 hg7; have q7 := hrow7 _ _ _ q6 (by decide); have k7 := (q7.cell 0).trans (show _ = some (.slice A' j c') from rfl); have f7 := q7.frozen 0))
      all_goals go_show
      all_goals (
        have R1 : Row w7 w.heap.size 25 #[.slice (some ⟨b, o, none⟩) n c, .slice B m d] := hrow7 _ _ _ ((Row.below (w := wr.drew) Q1.out hw5 Q1.out.lt).alloc _) (by decide)
        have R2 : Row w7 (w.heap.size + 1) 25 #[.slice none 0 0, .slice none 0 0] := hrow7 _ _ _ ((Row.below (w := wr.drew) Q2.out hw5 Q2.out.lt).alloc _) (by decide)
        have S1 : Hid (Row (w7.setCell ⟨w.heap.size + 1 + 1, 0, none⟩ (.slice A7 (j + 1) c7)) w.heap.size 25 #[.slice (some ⟨b, o, none⟩) n c, .slice B m d]) := R1.far (by simp; omega) _
        have S2 : Hid (Row (w7.setCell ⟨w.heap.size + 1 + 1, 0, none⟩ (.slice A7 (j + 1) c7)) (w.heap.size + 1) 25 #[.slice none 0 0, .slice none 0 0]) := R2.far (by simp) _
        have S3 : Hid (Row (w7.setCell ⟨w.heap.size + 1 + 1, 0, none⟩ (.slice A7 (j + 1) c7)) (w.heap.size + 1 + 1) 25 #[.slice A7 (j + 1) c7, .slice none 0 0]) := q7.put 0 _
        have hrow : t.acts.take j ++ [row] = t.acts.take (j + 1) := by rw [List.take_add_one, hX.out]; rfl
        rw [hrow, hjl] at hN7
        have SN := hide (hN7.far (grown_put w7 (w.heap.size + 1 + 1) 0 (.slice A7 (j + 1) c7)) q7 (by decide) (by decide))
        have hbd : Below w.heap.size w wr.drew := ⟨hb.out.os, hb.out.tape, hb.out.output, hb.out.size, hb.out.block⟩
        have SB : Hid (Below w.heap.size w (w7.setCell ⟨w.heap.size + 1 + 1, 0, none⟩ (.slice A7 (j + 1) c7))) := (((hbd.trans (hw5.mono hbd.size)).alloc ((hbd.trans (hw5.mono hbd.size)).size) _).trans hb7).setCell (by simp; omega) _
        clear hN7 hb7 hrow7 hg7 q7 k7 f7 R1 R2 hN5 q5 q6 k5 k6 hT5 hO5 hb5 hg5 hw5 hE hI hNd
        generalize (w7.setCell ⟨w.heap.size + 1 + 1, 0, none⟩ (.slice A7 (j + 1) c7)) = w8 at *
        go_wp2_with fail
        exact ⟨⟨j + 1, A7, c7, by omega, rfl, S1, S2, S3, SN, SB⟩, by simp [intOf]; omega⟩)

    · have hlt' : decide ((j : Int) < (n : Int)) = false := by simp; omega
      have hltp : ¬ (j : Int) < (n : Int) := by omega
      obtain rfl : j = n := by omega
      go_wp2_with fail
      have hb2 := hb
      have hN2 : Hid (OwnN wr w.heap.size 47 43 2 f2 (.slice A' j c') t.acts) := by
        have := hN.out
        rwa [show t.acts.take j = t.acts from by rw [← la.out, List.take_length]] at this
      clear hN x0 hb P1 P2 P3 b1 hlt' hltp hlt hj
      generalize wr = wm at *
      go_loopw [5] (fun i wr => ∃ (i' : Nat) (B' : Option Addr) (d' : Nat), i' ≤ m ∧ i = .int .i64 i' ∧ Hid (Row wr w.heap.size 25 #[.slice A j c, .slice B m d]) ∧ Hid (Row wr (w.heap.size + 1) 25 #[.slice none 0 0, .slice none 0 0]) ∧ Hid (Row wr (w.heap.size + 1 + 1) 25 #[.slice A' j c', .slice B' i' d']) ∧
        Hid (OwnN wr w.heap.size 47 43 2 f2 (.slice A' j c') t.acts) ∧ Hid (OwnN wr w.heap.size 30 3 1 f1 (.slice B' i' d') (t.gots.take i')) ∧ Hid (Below w.heap.size w wr)) (fun i _ => m - (intOf i).toNat)
      case atStart => exact ⟨0, none, 0, by omega, rfl, Q1, Q2, Q3, hN2, OwnN.nil _ _ _ _ _ _, hb2⟩
      case round =>
        clear Q1 Q2 Q3 hN2 hb2
        obtain ⟨i, B', d', hi, rfl, Q1, Q2, Q3, hA, hN, hb⟩ := hrel
        have x1 := (Q1.out.cell 1).trans (show _ = some (.slice B m d) from rfl)
        by_cases hlt : i < m
        · have hlt' : decide ((i : Int) < (m : Int)) = true := by simp; omega
          have hltp : (i : Int) < (m : Int) := by omega
          obtain ⟨b, o, row, Ax, cx, rfl, hx, z1, z2, z3, z4⟩ := (HT.out.gots.below hb.out).at_ hlt
          have hr50 := HG.out row (List.mem_of_getElem? hx)
          have y0 := (Q3.out.cell 1).trans (show _ = some (.slice B' i d') from rfl)
          have hI : In wr.drew 1 f1 Ax row.length row := z2
          have hil : (t.gots.take i).length = i := by rw [List.length_take, lg.out]; omega
          have hX := hide hx
          have Q3d : Hid (Row wr.drew (w.heap.size + 1 + 1) 25 #[.slice A' j c', .slice B' i d']) := Q3
          have hNd : Hid (OwnN wr.drew w.heap.size 30 3 1 f1 (.slice B' i d') (t.gots.take i)) := hN
          have hAd : Hid (OwnN wr.drew w.heap.size 47 43 2 f2 (.slice A' j c') t.acts) := hA
          clear hx z2
          go_wp2_with fail
          go_region_law (first
            | (refine stepC (f := 25) (by kernel_rfl) rfl [_] _ rfl [.slice Ax row.length cx] rfl (rcopy_any Ax row.length cx row _ hI (by omega)) ?_; rintro e w5 ⟨v5, rfl, hO5, hb5⟩; refine ⟨_, rfl, ?_⟩; obtain ⟨A5, c5, rfl, hT5⟩ := hO5.inT; have hw5 := hb5; have hsz5 : w.heap.size ≤ (w5.alloc (.cells #[.slice A5 row.length c5] 30)).heap.size := by { have h1 := hb.out.size; have h2 := hw5.size; simp at h1 h2 ⊢; omega }; have hN5 := hNd.out.below (hw5.alloc hw5.size (.cells #[.slice A5 row.length c5] 30)); have hA5 := hAd.out.below (hw5.alloc hw5.size (.cells #[.slice A5 row.length c5] 30)); have q5 := Q3d.out.below hw5 Q3d.out.lt; have k5 := (q5.cell 1).trans (show _ = some (.slice B' i d') from rfl); have q6 := q5.alloc (.cells #[.slice A5 row.length c5] 30); have k6 := (q6.cell 1).trans (show _ = some (.slice B' i d') from rfl))
            | (refine stepN ti23 (by decide) w.heap.size hN5 (x := row) (Row.new w5 _ _) (hT5.below (below_alloc w5 _)) (by rw [hil]; omega) (by omega) hsz5 rfl _ _ rfl rfl rfl ?_; intro A7 c7 w7 hN7 hb7 hrow7 hg7; have q7 := hrow7 _ _ _ q6 (by decide); have k7 := (q7.cell 1).trans (show _ = some (.slice B' i d') from rfl); have f7 := q7.frozen 1))
          all_goals go_show
          all_goals (
            have R1 : Row w7 w.heap.size 25 #[.slice A j c, .slice (some ⟨b, o, none⟩) m d] := hrow7 _ _ _ ((Row.below (w := wr.drew) Q1.out hw5 Q1.out.lt).alloc _) (by decide)
            have R2 : Row w7 (w.heap.size + 1) 25 #[.slice none 0 0, .slice none 0 0] := hrow7 _ _ _ ((Row.below (w := wr.drew) Q2.out hw5 Q2.out.lt).alloc _) (by decide)
            have S1 : Hid (Row (w7.setCell ⟨w.heap.size + 1 + 1, 1, none⟩ (.slice A7 (i + 1) c7)) w.heap.size 25 #[.slice A j c, .slice (some ⟨b, o, none⟩) m d]) := R1.far (by simp; omega) _
            have S2 : Hid (Row (w7.setCell ⟨w.heap.size + 1 + 1, 1, none⟩ (.slice A7 (i + 1) c7)) (w.heap.size + 1) 25 #[.slice none 0 0, .slice none 0 0]) := R2.far (by simp) _
            have S3 : Hid (Row (w7.setCell ⟨w.heap.size + 1 + 1, 1, none⟩ (.slice A7 (i + 1) c7)) (w.heap.size + 1 + 1) 25 #[.slice A' j c', .slice A7 (i + 1) c7]) := q7.put 1 _
            have hrow : t.gots.take i ++ [row] = t.gots.take (i + 1) := by rw [List.take_add_one, hX.out]; rfl
            obtain ⟨us5, hus5⟩ := hN5.owns
            have hA7 := hA5.grown hus5 hg7 (by decide) (by decide)
            rw [hrow, hil] at hN7
            have SN := hide (hN7.far (grown_put w7 (w.heap.size + 1 + 1) 1 (.slice A7 (i + 1) c7)) q7 (by decide) (by decide))
            have SA := hide (hA7.far (grown_put w7 (w.heap.size + 1 + 1) 1 (.slice A7 (i + 1) c7)) q7 (by decide) (by decide))
            have hbd : Below w.heap.size w wr.drew := ⟨hb.out.os, hb.out.tape, hb.out.output, hb.out.size, hb.out.block⟩
            have SB : Hid (Below w.heap.size w (w7.setCell ⟨w.heap.size + 1 + 1, 1, none⟩ (.slice A7 (i + 1) c7))) := (((hbd.trans (hw5.mono hbd.size)).alloc ((hbd.trans (hw5.mono hbd.size)).size) _).trans hb7).setCell (by simp; omega) _
            clear hN7 hb7 hrow7 hg7 q7 k7 f7 R1 R2 hN5 q5 q6 k5 k6 hT5 hO5 hb5 hw5 hI hNd hus5 hA7 hA5 hAd
            generalize (w7.setCell ⟨w.heap.size + 1 + 1, 1, none⟩ (.slice A7 (i + 1) c7)) = w8 at *
            go_wp2_with fail
            exact ⟨⟨i + 1, A7, c7, by omega, rfl, S1, S2, S3, SA, SN, SB⟩, by simp [intOf]; omega⟩)
        · have hlt' : decide ((i : Int) < (m : Int)) = false := by simp; omega
          have hltp : ¬ (i : Int) < (m : Int) := by omega
          obtain rfl : i = m := by omega
          have hN2 : Hid (OwnN wr w.heap.size 30 3 1 f1 (.slice B' i d') t.gots) := by
            have := hN.out
            rwa [show t.gots.take i = t.gots from by rw [← lg.out, List.take_length]] at this
          have s0 := (Q3.out.cell 0).trans (show _ = some (.slice A' j c') from rfl)
          have s1 := (Q3.out.cell 1).trans (show _ = some (.slice B' i d') from rfl)
          have g0 := Q2.out.frozen 0
          have g1 := Q2.out.frozen 1
          have h0 := (Q2.out.cell 0).trans (show _ = some (.slice none 0 0) from rfl)
          have h1 := (Q2.out.cell 1).trans (show _ = some (.slice none 0 0) from rfl)
          go_wp2_with fail
          have R2 := (Q2.out.put 0 (.slice A' j c')).put 1 (.slice B' i d')
          have d0 : ((wr.setCell ⟨w.heap.size + 1, 0, none⟩ (.slice A' j c')).setCell ⟨w.heap.size + 1, 1, none⟩ (.slice B' i d')).cell? ⟨w.heap.size + 1, 0, none⟩ = some (.slice A' j c') := R2.cell 0
          have d1 : ((wr.setCell ⟨w.heap.size + 1, 0, none⟩ (.slice A' j c')).setCell ⟨w.heap.size + 1, 1, none⟩ (.slice B' i d')).cell? ⟨w.heap.size + 1, 1, none⟩ = some (.slice B' i d') := R2.cell 1
          have F1 := (hA.out.far (grown_put wr (w.heap.size + 1) 0 (.slice A' j c')) Q2.out (by decide) (by decide)).far (grown_put _ (w.heap.size + 1) 1 (.slice B' i d')) (Q2.out.put 0 (.slice A' j c')) (by decide) (by decide)
          have F2 := (hN2.out.far (grown_put wr (w.heap.size + 1) 0 (.slice A' j c')) Q2.out (by decide) (by decide)).far (grown_put _ (w.heap.size + 1) 1 (.slice B' i d')) (Q2.out.put 0 (.slice A' j c')) (by decide) (by decide)
          have F3 : Below w.heap.size w ((wr.setCell ⟨w.heap.size + 1, 0, none⟩ (.slice A' j c')).setCell ⟨w.heap.size + 1, 1, none⟩ (.slice B' i d')) := (hb.out.setCell (by simp) _).setCell (by simp) _
          generalize ((wr.setCell ⟨w.heap.size + 1, 0, none⟩ (.slice A' j c')).setCell ⟨w.heap.size + 1, 1, none⟩ (.slice B' i d')) = w9 at *
          refine bodyPost_ret (v := .agg #[.slice A' j c', .slice B' i d']) (by simp [results, Try.results10, go_sem, d0, d1]) rfl ?_
          exact ⟨A', c', B', d', by rw [la.out, lg.out], by rw [la.out]; exact F1, by rw [lg.out]; exact F2, F3⟩
end Go.Proofs.Ytfldbkioepcghaa
