/- Walks over the reference: equal lists of lists, equal tables. -/
import Derived.Test.YtfldbkioepcghaaT11
namespace Go.Proofs.Ytfldbkioepcghaa
open Go.RowKit
set_option linter.unusedVariables false

set_option maxHeartbeats 1000000 in
set_option maxRecDepth 100000 in
theorem lists_any (A B : Option Addr) (n m c d : Nat) (l k : List (List Int)) (w : World) (h1 : Nest w 1 f1 A n l) (h2 : Nest w 1 f1 B m k) (hn : n ≤ 9223372036854775807) (hm : m ≤ 9223372036854775807) :
    Calls Try.prog 38 #[.slice A n c, .slice B m d] w (EqPost w (decide (l = k))) := by
  have H1 := hide h1
  have H2 := hide h2
  have l1 := hide h1.1
  have l2 := hide h2.1
  clear h1 h2
  by_cases hne : n = m
  · subst hne
    have t0 : ((n : Int) != (n : Int)) = false := by simp
    go_enter Try.func38, Try.ntmps38
    go_wp2_with fail
    go_loopw [5] (fun i wr => ∃ j : Nat, j ≤ n ∧ i = .int .i64 j ∧ Hid (l.take j = k.take j) ∧ Hid (Below w.heap.size w wr)) (fun i _ => n - (intOf i).toNat)
    case atStart => exact ⟨0, by omega, rfl, rfl, Below.refl _ _⟩
    case round =>
      obtain ⟨j, hj, rfl, ht, hb⟩ := hrel
      by_cases hlt : j < n
      · have hlt' : decide ((j : Int) < (n : Int)) = true := by simp; omega
        have hltp : (j : Int) < (n : Int) := by omega
        obtain ⟨b, o, x, A', c', rfl, hx, z1, z2, z3, z4⟩ := (H1.out.below hb.out).at_ hlt
        obtain ⟨b', o', y, B', d', rfl, hy, y1, y2, y3, y4⟩ := (H2.out.below hb.out).at_ hlt
        have X0 : ∀ W, Ext wr W → W.cell? ⟨b, o + j, none⟩ = some (.slice A' x.length c') := fun W hW => (hW.cell (cell_lt z1)).trans z1
        have Y0 : ∀ W, Ext wr W → W.cell? ⟨b', o' + j, none⟩ = some (.slice B' y.length d') := fun W hW => (hW.cell (cell_lt y1)).trans y1
        have C := eq_37 A' B' x.length y.length c' d' x y wr.drew (z2.below (Ext.drew wr)) (y2.below (Ext.drew wr)) (by omega) (by omega)
        unfold EqPost at C
        have hbd : Hid (Below w.heap.size w wr.drew) := hb.out.drew
        have hX := hide hx
        have hY := hide hy
        clear hx hy z1 z2 y1 y2
        go_wp2_with fail
        refine wp_region_seq [(0, false), (1, false), (2, false), (3, false), (4, false), (5, false), (6, false), (7, false), (8, true), (9, false)]
          (by kernel_rfl) (by kernel_rfl) (by kernel_rfl) rfl (by kernel_rfl) (fun _ _ d _ _ h => by cases d <;> exact h) ?_
        simp only [List.map_cons, List.map_nil, List.getElem?_cons_succ, List.getElem?_cons_zero, Option.getD_some]
        iterate 8 (refine wpSeq_take rfl rfl (fun W hW => (by have x0 := X0 W hW; have y0 := Y0 W hW; go_simp; with_reducible rfl)) ?_; simp only [List.setIfInBounds_toArray, List.set_cons_zero, List.set_cons_succ])
        clear X0 Y0
        by_cases hxy : x = y
        · have ht2 : Hid (l.take (j + 1) = k.take (j + 1)) := same_take hX.out (hxy ▸ hY.out) ht.out
          rw [decide_eq_true hxy] at C
          clear hX hY hxy ht
          refine wpSeq_alone rfl (fun K hK => ?_)
          go_wp2_with fail
          refine C.mono ?_
          rintro e w3 ⟨rfl, hb3⟩
          have hb4 := hide (below_both hbd.out hb3 hbd.out.size)
          refine hK _ _ w3 (below_both (Ext.drew wr) hb3 (Nat.le_refl _)) (Ext.refl _) ?_
          clear hK K C hb3 hb hbd
          iterate 1 (refine wpSeq_take rfl rfl (fun W hW => (by go_simp; with_reducible rfl)) ?_; simp only [List.setIfInBounds_toArray, List.set_cons_zero, List.set_cons_succ])
          refine wpSeq_nil ?_
          go_wp2_with fail
          exact ⟨⟨j + 1, by omega, by go_num, ht2, hb4⟩, by simp [intOf]; omega⟩
        · have hf : Hid (decide (l = k) = false) := ne_at hX.out hY.out hxy
          rw [decide_eq_false hxy] at C
          clear hX hY hxy ht
          refine wpSeq_alone rfl (fun K hK => ?_)
          go_wp2_with fail
          refine C.mono ?_
          rintro e w3 ⟨rfl, hb3⟩
          have hb4 := hide (below_both hbd.out hb3 hbd.out.size)
          refine hK _ _ w3 (below_both (Ext.drew wr) hb3 (Nat.le_refl _)) (Ext.refl _) ?_
          clear hK K C hb3 hb hbd
          iterate 1 (refine wpSeq_take rfl rfl (fun W hW => (by go_simp; with_reducible rfl)) ?_; simp only [List.setIfInBounds_toArray, List.set_cons_zero, List.set_cons_succ])
          refine wpSeq_nil ?_
          go_wp2_with fail
          go_ret
          exact ⟨by rw [hf.out]; rfl, hb4.out⟩
      · have hlt' : decide ((j : Int) < (n : Int)) = false := by simp; omega
        have hf : Hid (decide (l = k) = true) := by
          show _ = _
          have := ht.out
          rw [List.take_of_length_le (by rw [l1.out]; omega), List.take_of_length_le (by rw [l2.out]; omega)] at this
          rw [this]
          simp
        go_wp2_with fail
        go_ret
        exact ⟨by rw [hf.out]; rfl, hb.out⟩
  · have hf : Hid (decide (l = k) = false) := by
      show _ = _
      rw [decide_eq_false_iff_not]
      rintro rfl
      exact hne (l1.out.symm.trans l2.out)
    have t0 : ((n : Int) != (m : Int)) = true := by simp; omega
    go_enter Try.func38, Try.ntmps38
    go_wp2_with fail
    go_ret
    exact ⟨by rw [hf.out]; rfl, Below.refl _ _⟩

theorem tab_ne {t u : Tab} (h : ¬ t.acts = u.acts ∨ ¬ t.gots = u.gots) : decide (t = u) = false := by
  rw [decide_eq_false_iff_not]
  rintro rfl
  rcases h with h | h <;> exact h rfl

set_option maxHeartbeats 2000000 in
set_option maxRecDepth 100000 in
theorem same17_any (A B A' B' : Option Addr) (n m c d n' m' c' d' : Nat) (t u : Tab) (w : World) (ht : TabAt w A B n m t) (hu : TabAt w A' B' n' m' u)
    (h1 : n ≤ 1000000) (h2 : m ≤ 1000000) (h3 : n' ≤ 1000000) (h4 : m' ≤ 1000000) :
    Calls Try.prog 14 #[.agg #[.slice A n c, .slice B m d], .agg #[.slice A' n' c', .slice B' m' d']] w (EqPost w (decide (t = u))) := by
  have b1 : Hid (Below w.heap.size w ((w.alloc (.cells #[.slice A n c, .slice B m d] 25)).alloc (.cells #[.slice A' n' c', .slice B' m' d'] 25))) := ((Below.refl _ _).alloc (Nat.le_refl _) _).alloc (by simp) _
  have R1 : Hid (Row ((w.alloc (.cells #[.slice A n c, .slice B m d] 25)).alloc (.cells #[.slice A' n' c', .slice B' m' d'] 25)) w.heap.size 25 #[.slice A n c, .slice B m d]) := (Row.new _ _ _).alloc _
  have R2 : Hid (Row ((w.alloc (.cells #[.slice A n c, .slice B m d] 25)).alloc (.cells #[.slice A' n' c', .slice B' m' d'] 25)) (w.heap.size + 1) 25 #[.slice A' n' c', .slice B' m' d']) := by
    have := Row.new (w.alloc (.cells #[.slice A n c, .slice B m d] 25)) 25 #[.slice A' n' c', .slice B' m' d']
    show Row _ _ _ _
    simpa using this
  have HT := hide (ht.below b1.out)
  have HU := hide (hu.below b1.out)
  have e1 : Hid (t.acts.length = n) := ht.acts.1
  have e2 : Hid (u.acts.length = n') := hu.acts.1
  have x0 := (R1.out.cell 0).trans (show _ = some (.slice A n c) from rfl)
  have x1 := (R1.out.cell 1).trans (show _ = some (.slice B m d) from rfl)
  have y0 := (R2.out.cell 0).trans (show _ = some (.slice A' n' c') from rfl)
  have y1 := (R2.out.cell 1).trans (show _ = some (.slice B' m' d') from rfl)
  have CL := lists_any B B' m m' d d' t.gots u.gots ((w.alloc (.cells #[.slice A n c, .slice B m d] 25)).alloc (.cells #[.slice A' n' c', .slice B' m' d'] 25)) HT.out.gots HU.out.gots (by omega) (by omega)
  unfold EqPost at CL
  clear ht hu
  by_cases hne : n = n'
  · have t0 : ((n : Int) != (n' : Int)) = false := by simp [hne]
    have hne' := hide hne
    clear hne
    go_enter Try.func14, Try.ntmps14
    go_wp2_with fail
    clear x0 x1 y0 y1
    generalize ((w.alloc (.cells #[.slice A n c, .slice B m d] 25)).alloc (.cells #[.slice A' n' c', .slice B' m' d'] 25)) = w1 at *
    by_cases hg : t.gots = u.gots
    · rw [decide_eq_true hg] at CL
      have hg' := hide hg
      clear hg
      refine CL.mono ?_
      rintro e w2 ⟨rfl, hb2⟩
      clear CL
      go_wp2_with fail
      go_loopw [5] (fun i wr => ∃ j : Nat, j ≤ n ∧ i = .int .i64 j ∧ Hid (t.acts.take j = u.acts.take j) ∧ Hid (Below w1.heap.size w1 wr)) (fun i _ => n - (intOf i).toNat)
      case atStart => exact ⟨0, by omega, rfl, rfl, hb2⟩
      case round =>
        obtain ⟨j, hj, rfl, htk, hb⟩ := hrel
        generalize wr = wo at *
        have x0 := ((R1.out.below hb.out R1.out.lt).cell 0).trans (show _ = some (.slice A n c) from rfl)
        by_cases hlt : j < n
        · have hlt' : decide ((j : Int) < (n : Int)) = true := by simp; omega
          have hltp : (j : Int) < (n : Int) := by omega
          have hltp' : (j : Int) < (n' : Int) := by have := hne'.out; omega
          obtain ⟨b, o, x, Ax, cx, rfl, hx, z1, z2, z3, z4⟩ := (HT.out.acts.below hb.out).at_ hlt
          obtain ⟨b', o', y, Ay, cy, rfl, hy, y1, y2, y3, y4⟩ := (HU.out.acts.below hb.out).at_ (show j < n' by have := hne'.out; omega)
          have X0 : ∀ W, Ext wo W → W.cell? ⟨w.heap.size, 0, none⟩ = some (.slice (some ⟨b, o, none⟩) n c) := fun W hW => (hW.cell (R1.out.below hb.out R1.out.lt).lt).trans (((R1.out.below hb.out R1.out.lt).cell 0).trans rfl)
          have Y0 : ∀ W, Ext wo W → W.cell? ⟨w.heap.size + 1, 0, none⟩ = some (.slice (some ⟨b', o', none⟩) n' c') := fun W hW => (hW.cell (R2.out.below hb.out R2.out.lt).lt).trans (((R2.out.below hb.out R2.out.lt).cell 0).trans rfl)
          have X1 : ∀ W, Ext wo W → W.cell? ⟨b, o + j, none⟩ = some (.slice Ax x.length cx) := fun W hW => (hW.cell (cell_lt z1)).trans z1
          have Y1 : ∀ W, Ext wo W → W.cell? ⟨b', o' + j, none⟩ = some (.slice Ay y.length cy) := fun W hW => (hW.cell (cell_lt y1)).trans y1
          have hX := hide hx
          have hY := hide hy
          have Z2 := hide z2
          have Y2 := hide y2
          clear hx hy z1 z2 y1 y2
          go_wp2_with fail
          clear x0
          have hbd : Hid (Below w1.heap.size w1 wo.drew) := hb.out.drew
          by_cases hl : x.length = y.length
          · have tl : ((x.length : Int) != (y.length : Int)) = false := by simp [hl]
            have hl' := hide hl
            clear hl
            refine wp_region_seq [(0, false), (1, false), (2, false), (3, false), (4, false), (5, false), (6, false), (7, false), (8, false), (9, false), (10, false), (11, false), (12, false)]
              (by kernel_rfl) (by kernel_rfl) (by kernel_rfl) rfl (by kernel_rfl) (fun _ _ d _ _ h => by cases d <;> exact h) ?_
            simp only [List.map_cons, List.map_nil, List.getElem?_cons_succ, List.getElem?_cons_zero, Option.getD_some]
            iterate 13 (refine wpSeq_take rfl rfl (fun W hW => (by have eX0 := X0 W hW; have eX1 := X1 W hW; have eY0 := Y0 W hW; have eY1 := Y1 W hW; go_simp; with_reducible rfl)) ?_; simp only [List.setIfInBounds_toArray, List.set_cons_zero, List.set_cons_succ])
            refine wpSeq_nil ?_
            go_wp2_with fail
            go_loopw [6] (fun i wr => ∃ q : Nat, q ≤ x.length ∧ i = .int .i64 q ∧ Hid (x.take q = y.take q) ∧ Hid (Below wo.heap.size wo wr)) (fun i _ => x.length - (intOf i).toNat)
            case atStart => exact ⟨0, by omega, rfl, rfl, Ext.drew wo⟩
            case round =>
              obtain ⟨q, hq, rfl, hqt, hbq⟩ := hrel
              have x0 := X0 wr hbq.out
              have x1 := X1 wr hbq.out
              by_cases hql : q < x.length
              · have hql' : decide ((q : Int) < (x.length : Int)) = true := by simp; omega
                have hqlp : (q : Int) < (x.length : Int) := by omega
                have hqlp' : (q : Int) < (y.length : Int) := by have := hl'.out; omega
                obtain ⟨bx, ox, p, rfl, hp, u1, u2⟩ := (Z2.out.below hbq.out).at2 hql
                obtain ⟨by', oy, p', rfl, hp', v1, v2⟩ := (Y2.out.below hbq.out).at2 (show q < y.length by have := hl'.out; omega)
                have U1 : ∀ W, Ext wr W → W.cell? ⟨bx, ox + q * 2, none⟩ = some (.int .i64 p.1) := fun W hW => (hW.cell (cell_lt u1)).trans u1
                have U2 : ∀ W, Ext wr W → W.cell? ⟨bx, ox + q * 2 + 1, none⟩ = some (.int .i64 p.2) := fun W hW => (hW.cell (cell_lt u2)).trans u2
                have V1 : ∀ W, Ext wr W → W.cell? ⟨by', oy + q * 2, none⟩ = some (.int .i64 p'.1) := fun W hW => (hW.cell (cell_lt v1)).trans v1
                have V2 : ∀ W, Ext wr W → W.cell? ⟨by', oy + q * 2 + 1, none⟩ = some (.int .i64 p'.2) := fun W hW => (hW.cell (cell_lt v2)).trans v2
                have hP := hide hp
                have hP' := hide hp'
                clear hp hp' u1 u2 v1 v2
                go_wp2_with fail
                clear x0 x1
                have hbqd : Hid (Below wo.heap.size wo wr.drew) := hbq.out.drew
                have hEx : Ext wo wr := hbq.out
                by_cases hpp : p = p'
                · have hq2 : Hid (x.take (q + 1) = y.take (q + 1)) := same_take hP.out (hpp ▸ hP'.out) hqt.out
                  have tn := neq43 p p'
                  rw [decide_eq_true hpp] at tn
                  simp only [Bool.not_true] at tn
                  clear hP hP' hpp hqt
                  refine wp_region_seq [(0, false), (1, false), (2, false), (3, false), (4, false), (5, false), (6, false), (7, false), (8, false), (9, false), (10, false), (11, false), (12, false), (13, false), (14, false), (15, false), (16, false)]
                    (by kernel_rfl) (by kernel_rfl) (by kernel_rfl) rfl (by kernel_rfl) (fun _ _ d _ _ h => by cases d <;> exact h) ?_
                  simp only [List.map_cons, List.map_nil, List.getElem?_cons_succ, List.getElem?_cons_zero, Option.getD_some]
                  iterate 17 (refine wpSeq_take rfl rfl (fun W hW => (by have eX0 := X0 W (hEx.trans hW); have eX1 := X1 W (hEx.trans hW); have eY0 := Y0 W (hEx.trans hW); have eY1 := Y1 W (hEx.trans hW); have eU1 := U1 W hW; have eU2 := U2 W hW; have eV1 := V1 W hW; have eV2 := V2 W hW; go_simp; with_reducible rfl)) ?_; simp only [List.setIfInBounds_toArray, List.set_cons_zero, List.set_cons_succ])
                  refine wpSeq_nil ?_
                  go_wp2_with fail
                  exact ⟨⟨q + 1, by omega, by go_num, hq2, hbqd⟩, by simp [intOf]; omega⟩
                · have hf : Hid (decide (t = u) = false) := tab_ne (.inl fun h => by
                    rw [h] at hX
                    obtain rfl := Option.some.inj (hX.out.symm.trans hY.out)
                    exact hpp (Option.some.inj (hP.out.symm.trans hP'.out)))
                  have tn := neq43 p p'
                  rw [decide_eq_false hpp] at tn
                  simp only [Bool.not_false] at tn
                  clear hP hP' hpp hqt
                  refine wp_region_seq [(0, false), (1, false), (2, false), (3, false), (4, false), (5, false), (6, false), (7, false), (8, false), (9, false), (10, false), (11, false), (12, false), (13, false), (14, false), (15, false), (16, false)]
                    (by kernel_rfl) (by kernel_rfl) (by kernel_rfl) rfl (by kernel_rfl) (fun _ _ d _ _ h => by cases d <;> exact h) ?_
                  simp only [List.map_cons, List.map_nil, List.getElem?_cons_succ, List.getElem?_cons_zero, Option.getD_some]
                  iterate 17 (refine wpSeq_take rfl rfl (fun W hW => (by have eX0 := X0 W (hEx.trans hW); have eX1 := X1 W (hEx.trans hW); have eY0 := Y0 W (hEx.trans hW); have eY1 := Y1 W (hEx.trans hW); have eU1 := U1 W hW; have eU2 := U2 W hW; have eV1 := V1 W hW; have eV2 := V2 W hW; go_simp; with_reducible rfl)) ?_; simp only [List.setIfInBounds_toArray, List.set_cons_zero, List.set_cons_succ])
                  refine wpSeq_nil ?_
                  go_wp2_with fail
                  go_ret
                  exact ⟨by rw [hf.out]; rfl, below_both (below_both b1.out hb.out b1.out.size) hbqd.out (below_both b1.out hb.out b1.out.size).size⟩
              · have hql' : decide ((q : Int) < (x.length : Int)) = false := by simp; omega
                have hxy : x = y := by
                  have := hqt.out
                  rwa [List.take_of_length_le (by omega), List.take_of_length_le (by rw [← hl'.out]; omega)] at this
                have ht2 : Hid (t.acts.take (j + 1) = u.acts.take (j + 1)) := same_take hX.out (hxy ▸ hY.out) htk.out
                have hb2' := hide (below_both hb.out hbq.out hb.out.size)
                clear hxy hX hY hqt htk
                go_wp2_with fail
                exact ⟨⟨j + 1, by omega, by go_num, ht2, hb2'⟩, by simp [intOf]; omega⟩
          · have tl : ((x.length : Int) != (y.length : Int)) = true := by simp; omega
            have hf : Hid (decide (t = u) = false) := tab_ne (.inl fun h => by
              rw [h] at hX
              obtain rfl := Option.some.inj (hX.out.symm.trans hY.out)
              exact hl rfl)
            clear hl hX hY
            refine wp_region_seq [(0, false), (1, false), (2, false), (3, false), (4, false), (5, false), (6, false), (7, false), (8, false), (9, false), (10, false), (11, false), (12, false)]
              (by kernel_rfl) (by kernel_rfl) (by kernel_rfl) rfl (by kernel_rfl) (fun _ _ d _ _ h => by cases d <;> exact h) ?_
            simp only [List.map_cons, List.map_nil, List.getElem?_cons_succ, List.getElem?_cons_zero, Option.getD_some]
            iterate 13 (refine wpSeq_take rfl rfl (fun W hW => (by have eX0 := X0 W hW; have eX1 := X1 W hW; have eY0 := Y0 W hW; have eY1 := Y1 W hW; go_simp; with_reducible rfl)) ?_; simp only [List.setIfInBounds_toArray, List.set_cons_zero, List.set_cons_succ])
            refine wpSeq_nil ?_
            go_wp2_with fail
            go_ret
            exact ⟨by rw [hf.out]; rfl, below_both b1.out hbd.out b1.out.size⟩
        · have hlt' : decide ((j : Int) < (n : Int)) = false := by simp; omega
          have hf : Hid (decide (t = u) = true) := by
            show _ = _
            have := htk.out
            rw [List.take_of_length_le (by rw [e1.out]; omega), List.take_of_length_le (by rw [e2.out, ← hne'.out]; omega)] at this
            obtain ⟨ta, tg⟩ := t
            obtain ⟨ua, ug⟩ := u
            dsimp only at this hg'
            rw [this, hg'.out]
            simp
          go_wp2_with fail
          go_ret
          exact ⟨by rw [hf.out]; rfl, below_both b1.out hb.out b1.out.size⟩
    · rw [decide_eq_false hg] at CL
      have hf : Hid (decide (t = u) = false) := tab_ne (.inr hg)
      clear hg
      refine CL.mono ?_
      rintro e w2 ⟨rfl, hb2⟩
      have b2 := hide (below_both b1.out hb2 b1.out.size)
      clear CL hb2
      go_wp2_with fail
      go_ret
      exact ⟨by rw [hf.out]; rfl, b2.out⟩
  · have t0 : ((n : Int) != (n' : Int)) = true := by simp; omega
    have hf : Hid (decide (t = u) = false) := tab_ne (.inl fun h => hne (by rw [← e1.out, ← e2.out, h]))
    clear hne CL
    go_enter Try.func14, Try.ntmps14
    go_wp2_with fail
    go_ret
    exact ⟨by rw [hf.out]; rfl, b1.out⟩
end Go.Proofs.Ytfldbkioepcghaa
