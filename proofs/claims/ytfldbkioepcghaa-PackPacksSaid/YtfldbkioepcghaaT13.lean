/- Walks over the reference: equal packed tables. -/
import Derived.Test.YtfldbkioepcghaaT8
import Derived.Test.YtfldbkioepcghaaT12
namespace Go.Proofs.Ytfldbkioepcghaa
open Go.RowKit
set_option linter.unusedVariables false

theorem pk_ne {p q : Pk} (h : ¬ p.terms = q.terms ∨ ¬ p.nons = q.nons ∨ ¬ p.rows = q.rows ∨ ¬ p.gotos = q.gotos ∨ ¬ p.of = q.of ∨ ¬ p.to = q.to) : decide (p = q) = false := by
  rw [decide_eq_false_iff_not]
  rintro rfl
  rcases h with h | h | h | h | h | h <;> exact h rfl

set_option maxHeartbeats 2000000 in
set_option maxRecDepth 100000 in
theorem same18_any (R O G T R' O' G' T' : Option Addr) (rn on gn tn rc oc gc tc rn' on' gn' tn' rc' oc' gc' tc' : Nat) (p q : Pk) (w : World) (hp : PkAt w R O G T rn on gn tn p) (hq : PkAt w R' O' G' T' rn' on' gn' tn' q)
    (h1 : rn ≤ 1000000) (h2 : on ≤ 1000000) (h3 : gn ≤ 1000000) (h4 : tn ≤ 1000000) (h5 : rn' ≤ 1000000) (h6 : on' ≤ 1000000) (h7 : gn' ≤ 1000000) (h8 : tn' ≤ 1000000) :
    Calls Try.prog 13 #[.agg #[.int .i64 p.terms, .int .i64 p.nons, .slice R rn rc, .slice O on oc, .slice G gn gc, .slice T tn tc], .agg #[.int .i64 q.terms, .int .i64 q.nons, .slice R' rn' rc', .slice O' on' oc', .slice G' gn' gc', .slice T' tn' tc']] w (EqPost w (decide (p = q))) := by
  have b1 : Hid (Below w.heap.size w ((w.alloc (.cells #[.int .i64 p.terms, .int .i64 p.nons, .slice R rn rc, .slice O on oc, .slice G gn gc, .slice T tn tc] 33)).alloc (.cells #[.int .i64 q.terms, .int .i64 q.nons, .slice R' rn' rc', .slice O' on' oc', .slice G' gn' gc', .slice T' tn' tc'] 33))) := ((Below.refl _ _).alloc (Nat.le_refl _) _).alloc (by simp) _
  have R1 : Hid (Row ((w.alloc (.cells #[.int .i64 p.terms, .int .i64 p.nons, .slice R rn rc, .slice O on oc, .slice G gn gc, .slice T tn tc] 33)).alloc (.cells #[.int .i64 q.terms, .int .i64 q.nons, .slice R' rn' rc', .slice O' on' oc', .slice G' gn' gc', .slice T' tn' tc'] 33)) w.heap.size 33 #[.int .i64 p.terms, .int .i64 p.nons, .slice R rn rc, .slice O on oc, .slice G gn gc, .slice T tn tc]) := (Row.new _ _ _).alloc _
  have R2 : Hid (Row ((w.alloc (.cells #[.int .i64 p.terms, .int .i64 p.nons, .slice R rn rc, .slice O on oc, .slice G gn gc, .slice T tn tc] 33)).alloc (.cells #[.int .i64 q.terms, .int .i64 q.nons, .slice R' rn' rc', .slice O' on' oc', .slice G' gn' gc', .slice T' tn' tc'] 33)) (w.heap.size + 1) 33 #[.int .i64 q.terms, .int .i64 q.nons, .slice R' rn' rc', .slice O' on' oc', .slice G' gn' gc', .slice T' tn' tc']) := by
    have := Row.new (w.alloc (.cells #[.int .i64 p.terms, .int .i64 p.nons, .slice R rn rc, .slice O on oc, .slice G gn gc, .slice T tn tc] 33)) 33 #[.int .i64 q.terms, .int .i64 q.nons, .slice R' rn' rc', .slice O' on' oc', .slice G' gn' gc', .slice T' tn' tc']
    show Row _ _ _ _
    simpa using this
  have HP := hide (hp.below b1.out)
  have HQ := hide (hq.below b1.out)
  have er : Hid (p.rows.length = rn) := hp.rows.1
  have eg : Hid (p.gotos.length = gn) := hp.gotos.1
  have er' : Hid (q.rows.length = rn') := hq.rows.1
  have eg' : Hid (q.gotos.length = gn') := hq.gotos.1
  have a0 := (R1.out.cell 0).trans (show _ = some (.int .i64 p.terms) from rfl)
  have c0 := (R2.out.cell 0).trans (show _ = some (.int .i64 q.terms) from rfl)
  have a1 := (R1.out.cell 1).trans (show _ = some (.int .i64 p.nons) from rfl)
  have c1 := (R2.out.cell 1).trans (show _ = some (.int .i64 q.nons) from rfl)
  have a2 := (R1.out.cell 2).trans (show _ = some (.slice R rn rc) from rfl)
  have c2 := (R2.out.cell 2).trans (show _ = some (.slice R' rn' rc') from rfl)
  have a3 := (R1.out.cell 3).trans (show _ = some (.slice O on oc) from rfl)
  have c3 := (R2.out.cell 3).trans (show _ = some (.slice O' on' oc') from rfl)
  have a4 := (R1.out.cell 4).trans (show _ = some (.slice G gn gc) from rfl)
  have c4 := (R2.out.cell 4).trans (show _ = some (.slice G' gn' gc') from rfl)
  have a5 := (R1.out.cell 5).trans (show _ = some (.slice T tn tc) from rfl)
  have c5 := (R2.out.cell 5).trans (show _ = some (.slice T' tn' tc') from rfl)
  clear hp hq
  by_cases gterms : ¬ (p.terms = q.terms)
  · have tterms : ((p.terms : Int) != q.terms) = true := by simpa using gterms
    have hf : Hid (decide (p = q) = false) := pk_ne (.inl gterms)
    clear gterms
    go_enter Try.func13, Try.ntmps13
    go_wp2_with fail
    go_ret
    exact ⟨by rw [hf.out]; rfl, b1.out⟩
  have gterms := Decidable.not_not.1 gterms
  have tterms : ((p.terms : Int) != q.terms) = false := by simp [gterms]
  have hterms := hide gterms
  clear gterms
  by_cases gnons : ¬ (p.nons = q.nons)
  · have tnons : ((p.nons : Int) != q.nons) = true := by simpa using gnons
    have hf : Hid (decide (p = q) = false) := pk_ne (.inr (.inl gnons))
    clear gnons
    go_enter Try.func13, Try.ntmps13
    go_wp2_with fail
    go_ret
    exact ⟨by rw [hf.out]; rfl, b1.out⟩
  have gnons := Decidable.not_not.1 gnons
  have tnons : ((p.nons : Int) != q.nons) = false := by simp [gnons]
  have hnons := hide gnons
  clear gnons
  by_cases grn : ¬ (rn = rn')
  · have trn : ((rn : Int) != (rn' : Int)) = true := by simp; omega
    have hf : Hid (decide (p = q) = false) := pk_ne (.inr (.inr (.inl fun h => grn (by rw [← er.out, ← er'.out, h]))))
    clear grn
    go_enter Try.func13, Try.ntmps13
    go_wp2_with fail
    go_ret
    exact ⟨by rw [hf.out]; rfl, b1.out⟩
  have grn := Decidable.not_not.1 grn
  have trn : ((rn : Int) != (rn' : Int)) = false := by simp [grn]
  have hrn := hide grn
  clear grn
  by_cases ggn : ¬ (gn = gn')
  · have tgn : ((gn : Int) != (gn' : Int)) = true := by simp; omega
    have hf : Hid (decide (p = q) = false) := pk_ne (.inr (.inr (.inr (.inl fun h => ggn (by rw [← eg.out, ← eg'.out, h])))))
    clear ggn
    go_enter Try.func13, Try.ntmps13
    go_wp2_with fail
    go_ret
    exact ⟨by rw [hf.out]; rfl, b1.out⟩
  have ggn := Decidable.not_not.1 ggn
  have tgn : ((gn : Int) != (gn' : Int)) = false := by simp [ggn]
  have hgn := hide ggn
  clear ggn
  go_enter Try.func13, Try.ntmps13
  go_wp2_with fail
  clear a0 c0 a1 c1 a2 c2 a3 c3 a4 c4 a5 c5
  generalize ((w.alloc (.cells #[.int .i64 p.terms, .int .i64 p.nons, .slice R rn rc, .slice O on oc, .slice G gn gc, .slice T tn tc] 33)).alloc (.cells #[.int .i64 q.terms, .int .i64 q.nons, .slice R' rn' rc', .slice O' on' oc', .slice G' gn' gc', .slice T' tn' tc'] 33)) = w1 at *
  have CO := eq_37 O O' on on' oc oc' p.of q.of w1 HP.out.of HQ.out.of (by omega) (by omega)
  unfold EqPost at CO
  by_cases ho : p.of = q.of
  · rw [decide_eq_true ho] at CO
    have ho' := hide ho
    clear ho
    refine CO.mono ?_
    rintro e w2 ⟨rfl, hb2⟩
    have y3 := ((R1.out.below hb2 R1.out.lt).cell 5).trans (show _ = some (.slice T tn tc) from rfl)
    have y4 := ((R2.out.below hb2 R2.out.lt).cell 5).trans (show _ = some (.slice T' tn' tc') from rfl)
    have CT := eq_37 T T' tn tn' tc tc' p.to q.to w2 (HP.out.to.below hb2) (HQ.out.to.below hb2) (by omega) (by omega)
    unfold EqPost at CT
    have B2 := hide hb2
    clear CO hb2
    go_wp2_with fail
    clear y3 y4
    by_cases hto : p.to = q.to
    · rw [decide_eq_true hto] at CT
      have hto' := hide hto
      clear hto
      refine CT.mono ?_
      rintro e w3 ⟨rfl, hb3⟩
      have B3 := hide (below_both B2.out hb3 B2.out.size)
      clear CT hb3 B2
      go_wp2_with fail
      go_loopw [5] (fun i wr => ∃ j : Nat, j ≤ rn ∧ i = .int .i64 j ∧ Hid (p.rows.take j = q.rows.take j) ∧ Hid (Below w1.heap.size w1 wr)) (fun i _ => rn - (intOf i).toNat)
      case atStart => exact ⟨0, by omega, rfl, rfl, B3⟩
      case round =>
        obtain ⟨j, hj, rfl, htk, hb⟩ := hrel
        have x0 := ((R1.out.below hb.out R1.out.lt).cell 2).trans (show _ = some (.slice R rn rc) from rfl)
        by_cases hlt : j < rn
        · have hlt' : decide ((j : Int) < (rn : Int)) = true := by simp; omega
          have hltp : (j : Int) < (rn : Int) := by omega
          have hltp' : (j : Int) < (rn' : Int) := by have := hrn.out; omega
          obtain ⟨b, o, x, Ax, cx, rfl, hx, z1, z2, z3, z4⟩ := (HP.out.rows.below hb.out).at_ hlt
          obtain ⟨b', o', y, Ay, cy, rfl, hy, y1, y2, y3, y4⟩ := (HQ.out.rows.below hb.out).at_ (show j < rn' by have := hrn.out; omega)
          have X0 : ∀ W, Ext wr W → W.cell? ⟨w.heap.size, 2, none⟩ = some (.slice (some ⟨b, o, none⟩) rn rc) := fun W hW => (hW.cell (R1.out.below hb.out R1.out.lt).lt).trans (((R1.out.below hb.out R1.out.lt).cell 2).trans rfl)
          have Y0 : ∀ W, Ext wr W → W.cell? ⟨w.heap.size + 1, 2, none⟩ = some (.slice (some ⟨b', o', none⟩) rn' rc') := fun W hW => (hW.cell (R2.out.below hb.out R2.out.lt).lt).trans (((R2.out.below hb.out R2.out.lt).cell 2).trans rfl)
          have X1 : ∀ W, Ext wr W → W.cell? ⟨b, o + j, none⟩ = some (.slice Ax x.length cx) := fun W hW => (hW.cell (cell_lt z1)).trans z1
          have Y1 : ∀ W, Ext wr W → W.cell? ⟨b', o' + j, none⟩ = some (.slice Ay y.length cy) := fun W hW => (hW.cell (cell_lt y1)).trans y1
          have C := eq_35 Ax Ay x.length y.length cx cy x y wr.drew (z2.below (Ext.drew wr)) (y2.below (Ext.drew wr)) (by omega) (by omega)
          unfold EqPost at C
          have hbd : Hid (Below w1.heap.size w1 wr.drew) := hb.out.drew
          have hX := hide hx
          have hY := hide hy
          clear hx hy z1 z2 y1 y2
          go_wp2_with fail
          clear x0
          refine wp_region_seq [(0, false), (1, false), (2, false), (3, false), (4, false), (5, false), (6, false), (7, false), (8, false), (9, false), (10, true), (11, false)]
            (by kernel_rfl) (by kernel_rfl) (by kernel_rfl) rfl (by kernel_rfl) (fun _ _ d _ _ h => by cases d <;> exact h) ?_
          simp only [List.map_cons, List.map_nil, List.getElem?_cons_succ, List.getElem?_cons_zero, Option.getD_some]
          iterate 10 (refine wpSeq_take rfl rfl (fun W hW => (by have e0 := X0 W hW; have e1 := X1 W hW; have e2 := Y0 W hW; have e3 := Y1 W hW; go_simp; with_reducible rfl)) ?_; simp only [List.setIfInBounds_toArray, List.set_cons_zero, List.set_cons_succ])
          clear X0 X1 Y0 Y1
          by_cases hxy : x = y
          · have ht2 : Hid (p.rows.take (j + 1) = q.rows.take (j + 1)) := same_take hX.out (hxy ▸ hY.out) htk.out
            rw [decide_eq_true hxy] at C
            clear hX hY hxy htk
            refine wpSeq_alone rfl (fun K hK => ?_)
            go_wp2_with fail
            refine C.mono ?_
            rintro e w5 ⟨rfl, hb5⟩
            have hb6 := hide (below_both hbd.out hb5 hbd.out.size)
            refine hK _ _ w5 (below_both (Ext.drew wr) hb5 (Nat.le_refl _)) (Ext.refl _) ?_
            clear hK K C hb5 hbd hb
            iterate 1 (refine wpSeq_take rfl rfl (fun W hW => (by go_simp; with_reducible rfl)) ?_; simp only [List.setIfInBounds_toArray, List.set_cons_zero, List.set_cons_succ])
            refine wpSeq_nil ?_
            go_wp2_with fail
            exact ⟨⟨j + 1, by omega, by go_num, ht2, hb6⟩, by simp [intOf]; omega⟩
          · have hf : Hid (decide (p = q) = false) := pk_ne (.inr (.inr (.inl fun h => by
              rw [h] at hX
              exact hxy (Option.some.inj (hX.out.symm.trans hY.out)))))
            rw [decide_eq_false hxy] at C
            clear hX hY hxy htk
            refine wpSeq_alone rfl (fun K hK => ?_)
            go_wp2_with fail
            refine C.mono ?_
            rintro e w5 ⟨rfl, hb5⟩
            have hb6 := hide (below_both b1.out (below_both hbd.out hb5 hbd.out.size) b1.out.size)
            refine hK _ _ w5 (below_both (Ext.drew wr) hb5 (Nat.le_refl _)) (Ext.refl _) ?_
            clear hK K C hb5 hbd hb
            iterate 1 (refine wpSeq_take rfl rfl (fun W hW => (by go_simp; with_reducible rfl)) ?_; simp only [List.setIfInBounds_toArray, List.set_cons_zero, List.set_cons_succ])
            refine wpSeq_nil ?_
            go_wp2_with fail
            go_ret
            exact ⟨by rw [hf.out]; rfl, hb6.out⟩
        · have hlt' : decide ((j : Int) < (rn : Int)) = false := by simp; omega
          have hrows : Hid (p.rows = q.rows) := by
            show _ = _
            have := htk.out
            have f1 := er.out; have f2 := er'.out
            rwa [List.take_of_length_le (by omega), List.take_of_length_le (by have := hrn.out; omega)] at this
          clear htk
          go_wp2_with fail
          clear x0
          go_loopw [6] (fun i wr => ∃ j : Nat, j ≤ gn ∧ i = .int .i64 j ∧ Hid (p.gotos.take j = q.gotos.take j) ∧ Hid (Below w1.heap.size w1 wr)) (fun i _ => gn - (intOf i).toNat)
          case atStart => exact ⟨0, by omega, rfl, rfl, hb⟩
          case round =>
            clear hb hlt hlt' hj
            obtain ⟨i, hi, rfl, htk, hb⟩ := hrel
            have x0 := ((R1.out.below hb.out R1.out.lt).cell 4).trans (show _ = some (.slice G gn gc) from rfl)
            by_cases hlt : i < gn
            · have hlt' : decide ((i : Int) < (gn : Int)) = true := by simp; omega
              have hltp : (i : Int) < (gn : Int) := by omega
              have hltp' : (i : Int) < (gn' : Int) := by have := hgn.out; omega
              obtain ⟨b, o, x, Ax, cx, rfl, hx, z1, z2, z3, z4⟩ := (HP.out.gotos.below hb.out).at_ hlt
              obtain ⟨b', o', y, Ay, cy, rfl, hy, y1, y2, y3, y4⟩ := (HQ.out.gotos.below hb.out).at_ (show i < gn' by have := hgn.out; omega)
              have X0 : ∀ W, Ext wr W → W.cell? ⟨w.heap.size, 4, none⟩ = some (.slice (some ⟨b, o, none⟩) gn gc) := fun W hW => (hW.cell (R1.out.below hb.out R1.out.lt).lt).trans (((R1.out.below hb.out R1.out.lt).cell 4).trans rfl)
              have Y0 : ∀ W, Ext wr W → W.cell? ⟨w.heap.size + 1, 4, none⟩ = some (.slice (some ⟨b', o', none⟩) gn' gc') := fun W hW => (hW.cell (R2.out.below hb.out R2.out.lt).lt).trans (((R2.out.below hb.out R2.out.lt).cell 4).trans rfl)
              have X1 : ∀ W, Ext wr W → W.cell? ⟨b, o + i, none⟩ = some (.slice Ax x.length cx) := fun W hW => (hW.cell (cell_lt z1)).trans z1
              have Y1 : ∀ W, Ext wr W → W.cell? ⟨b', o' + i, none⟩ = some (.slice Ay y.length cy) := fun W hW => (hW.cell (cell_lt y1)).trans y1
              have C := eq_36 Ax Ay x.length y.length cx cy x y wr.drew (z2.below (Ext.drew wr)) (y2.below (Ext.drew wr)) (by omega) (by omega)
              unfold EqPost at C
              have hbd : Hid (Below w1.heap.size w1 wr.drew) := hb.out.drew
              have hX := hide hx
              have hY := hide hy
              clear hx hy z1 z2 y1 y2
              go_wp2_with fail
              clear x0
              refine wp_region_seq [(0, false), (1, false), (2, false), (3, false), (4, false), (5, false), (6, false), (7, false), (8, false), (9, false), (10, true), (11, false)]
                (by kernel_rfl) (by kernel_rfl) (by kernel_rfl) rfl (by kernel_rfl) (fun _ _ d _ _ h => by cases d <;> exact h) ?_
              simp only [List.map_cons, List.map_nil, List.getElem?_cons_succ, List.getElem?_cons_zero, Option.getD_some]
              iterate 10 (refine wpSeq_take rfl rfl (fun W hW => (by have e0 := X0 W hW; have e1 := X1 W hW; have e2 := Y0 W hW; have e3 := Y1 W hW; go_simp; with_reducible rfl)) ?_; simp only [List.setIfInBounds_toArray, List.set_cons_zero, List.set_cons_succ])
              clear X0 X1 Y0 Y1
              by_cases hxy : x = y
              · have ht2 : Hid (p.gotos.take (i + 1) = q.gotos.take (i + 1)) := same_take hX.out (hxy ▸ hY.out) htk.out
                rw [decide_eq_true hxy] at C
                clear hX hY hxy htk
                refine wpSeq_alone rfl (fun K hK => ?_)
                go_wp2_with fail
                refine C.mono ?_
                rintro e w5 ⟨rfl, hb5⟩
                have hb6 := hide (below_both hbd.out hb5 hbd.out.size)
                refine hK _ _ w5 (below_both (Ext.drew wr) hb5 (Nat.le_refl _)) (Ext.refl _) ?_
                clear hK K C hb5 hbd hb
                iterate 1 (refine wpSeq_take rfl rfl (fun W hW => (by go_simp; with_reducible rfl)) ?_; simp only [List.setIfInBounds_toArray, List.set_cons_zero, List.set_cons_succ])
                refine wpSeq_nil ?_
                go_wp2_with fail
                exact ⟨⟨i + 1, by omega, by go_num, ht2, hb6⟩, by simp [intOf]; omega⟩
              · have hf : Hid (decide (p = q) = false) := pk_ne (.inr (.inr (.inr (.inl fun h => by
                  rw [h] at hX
                  exact hxy (Option.some.inj (hX.out.symm.trans hY.out))))))
                rw [decide_eq_false hxy] at C
                clear hX hY hxy htk
                refine wpSeq_alone rfl (fun K hK => ?_)
                go_wp2_with fail
                refine C.mono ?_
                rintro e w5 ⟨rfl, hb5⟩
                have hb6 := hide (below_both b1.out (below_both hbd.out hb5 hbd.out.size) b1.out.size)
                refine hK _ _ w5 (below_both (Ext.drew wr) hb5 (Nat.le_refl _)) (Ext.refl _) ?_
                clear hK K C hb5 hbd hb
                iterate 1 (refine wpSeq_take rfl rfl (fun W hW => (by go_simp; with_reducible rfl)) ?_; simp only [List.setIfInBounds_toArray, List.set_cons_zero, List.set_cons_succ])
                refine wpSeq_nil ?_
                go_wp2_with fail
                go_ret
                exact ⟨by rw [hf.out]; rfl, hb6.out⟩
            · have hlt' : decide ((i : Int) < (gn : Int)) = false := by simp; omega
              have hf : Hid (decide (p = q) = true) := by
                show _ = _
                have := htk.out
                have f1 := eg.out; have f2 := eg'.out
                rw [List.take_of_length_le (by omega), List.take_of_length_le (by have := hgn.out; omega)] at this
                have z1 := hterms.out; have z2 := hnons.out; have z3 := hrows.out; have z4 := ho'.out; have z5 := hto'.out
                obtain ⟨pa, pb, pc, pd, pe, pf⟩ := p
                obtain ⟨qa, qb, qc, qd, qe, qf⟩ := q
                dsimp only at this z1 z2 z3 z4 z5
                rw [this, z1, z2, z3, z4, z5]
                simp
              go_wp2_with fail
              go_ret
              exact ⟨by rw [hf.out]; rfl, below_both b1.out hb.out b1.out.size⟩
    · rw [decide_eq_false hto] at CT
      have hf : Hid (decide (p = q) = false) := pk_ne (.inr (.inr (.inr (.inr (.inr hto)))))
      clear hto
      refine CT.mono ?_
      rintro e w3 ⟨rfl, hb3⟩
      have B3 := hide (below_both b1.out (below_both B2.out hb3 B2.out.size) b1.out.size)
      clear CT hb3
      go_wp2_with fail
      go_ret
      exact ⟨by rw [hf.out]; rfl, B3.out⟩
  · rw [decide_eq_false ho] at CO
    have hf : Hid (decide (p = q) = false) := pk_ne (.inr (.inr (.inr (.inr (.inl ho)))))
    clear ho
    refine CO.mono ?_
    rintro e w3 ⟨rfl, hb3⟩
    have B3 := hide (below_both b1.out hb3 b1.out.size)
    clear CO hb3
    go_wp2_with fail
    go_ret
    exact ⟨by rw [hf.out]; rfl, B3.out⟩
end Go.Proofs.Ytfldbkioepcghaa
