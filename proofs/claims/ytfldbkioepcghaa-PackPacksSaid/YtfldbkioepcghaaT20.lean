/- Walks over the reference: what stands in a cell. -/
import Derived.Test.YtfldbkioepcghaaT19
namespace Go.Proofs.Ytfldbkioepcghaa
open Go.RowKit
set_option linter.unusedVariables false

theorem find_hit {α : Type} {p : α → Bool} {l : List α} {j : Nat} {x : α} (hx : l[j]? = some x) (h : p x = true) : (l.drop j).find? p = some x := by
  have hj := (List.getElem?_eq_some_iff.1 hx).1
  rw [List.drop_eq_getElem_cons hj]
  obtain ⟨_, rfl⟩ := List.getElem?_eq_some_iff.1 hx
  exact List.find?_cons_of_pos h
theorem find_miss {α : Type} {p : α → Bool} {l : List α} {j : Nat} {x : α} (hx : l[j]? = some x) (h : p x = false) : (l.drop j).find? p = (l.drop (j + 1)).find? p := by
  have hj := (List.getElem?_eq_some_iff.1 hx).1
  rw [List.drop_eq_getElem_cons hj]
  obtain ⟨_, rfl⟩ := List.getElem?_eq_some_iff.1 hx
  exact List.find?_cons_of_neg (by simp [h])

set_option maxHeartbeats 2000000 in
set_option maxRecDepth 100000 in
theorem rgoto_any (R O G T : Option Addr) (rn on gn tn rc oc gc tc : Nat) (p : Pk) (state col : Int) (w : World) (hp : PkAt w R O G T rn on gn tn p) (hon : on ≤ 1000000) (htn : tn ≤ 1000000) (hrn : rn ≤ 1000000) (hgn : gn ≤ 1000000) :
    Calls Try.prog 24 #[.agg #[.int .i64 p.terms, .int .i64 p.nons, .slice R rn rc, .slice O on oc, .slice G gn gc, .slice T tn tc], .int .i64 state, .int .i64 col] w (IdxPost w (gotP p state col)) := by
  have b1 : Hid (Below w.heap.size w (w.alloc (.cells #[.int .i64 p.terms, .int .i64 p.nons, .slice R rn rc, .slice O on oc, .slice G gn gc, .slice T tn tc] 33))) := (Below.refl _ _).alloc (Nat.le_refl _) _
  have R1 : Hid (Row (w.alloc (.cells #[.int .i64 p.terms, .int .i64 p.nons, .slice R rn rc, .slice O on oc, .slice G gn gc, .slice T tn tc] 33)) w.heap.size 33 #[.int .i64 p.terms, .int .i64 p.nons, .slice R rn rc, .slice O on oc, .slice G gn gc, .slice T tn tc]) := Row.new _ _ _
  have HP := hide hp
  have hpo : Hid (p.to.length = tn) := hp.to.1
  have hpr : Hid (p.gotos.length = gn) := hp.gotos.1
  have hpO : Hid (p.of.length = on) := hp.of.1
  have x0 := (R1.out.cell 0).trans (show _ = some (.int .i64 p.terms) from rfl)
  have x1 := (R1.out.cell 1).trans (show _ = some (.int .i64 p.nons) from rfl)
  have x2 := (R1.out.cell 2).trans (show _ = some (.slice R rn rc) from rfl)
  have x3 := (R1.out.cell 3).trans (show _ = some (.slice O on oc) from rfl)
  have x4 := (R1.out.cell 4).trans (show _ = some (.slice G gn gc) from rfl)
  have x5 := (R1.out.cell 5).trans (show _ = some (.slice T tn tc) from rfl)
  have C1 := rright_any R O G T rn on gn tn rc oc gc tc p (w.alloc (.cells #[.int .i64 p.terms, .int .i64 p.nons, .slice R rn rc, .slice O on oc, .slice G gn gc, .slice T tn tc] 33)) (hp.below b1.out) hon htn hrn hgn
  clear hp
  go_enter Try.func24, Try.ntmps24
  go_wp2_with fail
  clear x0 x1 x2 x3 x4 x5
  generalize (w.alloc (.cells #[.int .i64 p.terms, .int .i64 p.nons, .slice R rn rc, .slice O on oc, .slice G gn gc, .slice T tn tc] 33)) = w1 at *
  cases hr : rightP p with
  | false =>
    have hres : Hid (gotP p state col = -1) := by show _ = _; unfold gotP; rw [hr]; rfl
    rw [hr] at C1
    clear hr
    refine C1.mono ?_
    rintro e w2 ⟨rfl, hb2⟩
    have b2 := hide (below_both b1.out hb2 b1.out.size)
    clear C1 hb2
    go_wp2_with fail
    go_ret
    exact ⟨by rw [hres.out]; rfl, b2.out⟩
  | true =>
    rw [hr] at C1
    obtain ⟨_, _, _, _, _, _, q7, _, _, qo, qt, _, _⟩ := right_parts hr
    have hr' := hide hr
    have hnum : Hid (numsL p.to (p.gotos.length : Int) = true) := qt
    have hq7 := hide q7
    clear hr q7 qo qt
    refine C1.mono ?_
    rintro e w2 ⟨rfl, hb2⟩
    have b2 := hide (below_both b1.out hb2 b1.out.size)
    have R1' := hide (R1.out.below hb2 R1.out.lt)
    clear C1 hb2
    by_cases h1 : state < 0
    · have t1 : decide (state < 0) = true := decide_eq_true h1
      have hres : Hid (gotP p state col = -1) := by show _ = _; unfold gotP; rw [hr'.out, decide_eq_false (show ¬ 0 ≤ state by omega)]; rfl
      clear h1
      go_wp2_with fail
      go_ret
      exact ⟨by rw [hres.out]; rfl, b2.out⟩
    have t1 : decide (state < 0) = false := decide_eq_false h1
    obtain ⟨s, rfl⟩ := Int.eq_ofNat_of_zero_le (show 0 ≤ state by omega)
    have xF := (R1'.out.cell 5).trans (show _ = some (.slice T tn tc) from rfl)
    have xR := (R1'.out.cell 4).trans (show _ = some (.slice G gn gc) from rfl)
    clear h1
    by_cases h2 : tn ≤ s
    · have t2 : decide (tn ≤ s) = true := decide_eq_true h2
      have hres : Hid (gotP p (s : Int) col = -1) := by
        show _ = _
        have h3 := hpo.out
        have h4 := hq7.out
        unfold gotP
        rw [hr'.out, decide_eq_false (show ¬ (s : Int) < (p.of.length : Int) by omega)]
        cases decide (0 ≤ (s : Int)) <;> rfl
      clear h2
      go_wp2_with fail
      go_ret
      exact ⟨by rw [hres.out]; rfl, b2.out⟩
    have t2 : decide (tn ≤ s) = false := decide_eq_false h2
    have hsl : s < tn := by omega
    obtain ⟨b, o, z, rfl, hz, k0⟩ := (HP.out.to.below b2.out).at1 hsl
    have hzb := nums_at hnum.out hz
    obtain ⟨q, rfl⟩ := Int.eq_ofNat_of_zero_le hzb.1
    have hql : q < gn := by have := hpr.out; omega
    obtain ⟨b', o', row, A', c', rfl, hrow, k1, k2, k3, k4⟩ := (HP.out.gotos.below b2.out).at_ hql
    have hf : Hid (gotP p (s : Int) col = match row.find? (pCol2 col) with
      | some x => x.2
      | none => -1) := by
      show _ = _
      have h3 := hpo.out
      have h4 := hq7.out
      unfold gotP
      rw [hr'.out, decide_eq_true (show (0 : Int) ≤ (s : Int) by omega), decide_eq_true (show (s : Int) < (p.of.length : Int) by omega)]
      simp only [Bool.and_self, if_true, rowAt, Int.toNat_natCast, Int.natCast_nonneg, hz, hrow, Option.bind_some]
      rfl
    have hslp : (s : Int) < (tn : Int) := by omega
    have hqlp : (q : Int) < (gn : Int) := by omega
    have X0 : ∀ W, Ext w2 W → W.cell? ⟨w.heap.size, 5, none⟩ = some (.slice (some ⟨b, o, none⟩) tn tc) := fun W hW => (hW.cell R1'.out.lt).trans ((R1'.out.cell 5).trans rfl)
    have X1 : ∀ W, Ext w2 W → W.cell? ⟨w.heap.size, 4, none⟩ = some (.slice (some ⟨b', o', none⟩) gn gc) := fun W hW => (hW.cell R1'.out.lt).trans ((R1'.out.cell 4).trans rfl)
    have X2 : ∀ W, Ext w2 W → W.cell? ⟨b, o + s, none⟩ = some (.int .i64 (q : Int)) := fun W hW => (hW.cell (cell_lt k0)).trans k0
    have X3 : ∀ W, Ext w2 W → W.cell? ⟨b', o' + q, none⟩ = some (.slice A' row.length c') := fun W hW => (hW.cell (cell_lt k1)).trans k1
    have hz' := hide hz
    have hrow' := hide hrow
    clear h2 hz hrow hzb k0 k1
    go_wp2_with fail
    clear xF xR
    refine wp_region_seq [(0, false), (1, false), (2, false), (3, false), (4, false), (5, false), (6, false), (7, false), (8, false), (9, false)]
      (by kernel_rfl) (by kernel_rfl) (by kernel_rfl) rfl (by kernel_rfl) (fun _ _ d _ _ h => by cases d <;> exact h) ?_
    simp only [List.map_cons, List.map_nil, List.getElem?_cons_succ, List.getElem?_cons_zero, Option.getD_some]
    iterate 10 (refine wpSeq_take rfl rfl (fun W hW => (by have e0 := X0 W hW; have e1 := X1 W hW; have e2 := X2 W hW; have e3 := X3 W hW; go_simp; with_reducible rfl)) ?_; simp only [List.setIfInBounds_toArray, List.set_cons_zero, List.set_cons_succ])
    refine wpSeq_nil ?_
    clear X0 X1 X2 X3
    have b3 : Hid (Below w.heap.size w w2.drew) := b2.out.drew
    have K2 : In w2.drew 2 f2 A' row.length row := k2.below (Ext.drew w2)
    clear R1'
    generalize w2.drew = w3 at *
    go_wp2_with fail
    go_loopw [8] (fun i wr => ∃ j : Nat, j ≤ row.length ∧ i = .int .i64 j ∧ Hid (row.find? (pCol2 col) = (row.drop j).find? (pCol2 col)) ∧ Hid (w3 = wr)) (fun i _ => row.length - (intOf i).toNat)
    case atStart => exact ⟨0, by omega, rfl, rfl, hide rfl⟩
    case round =>
      obtain ⟨j, hj, rfl, ht, hwr⟩ := hrel
      obtain rfl := hwr.out
      by_cases hlt : j < row.length
      · have hlt' : decide ((j : Int) < (row.length : Int)) = true := by simp; omega
        have hltp : (j : Int) < (row.length : Int) := by omega
        obtain ⟨b9, o9, x, rfl, hx, z1, z2⟩ := K2.at2 hlt
        cases hc : (x.1 == col) with
        | true =>
          have hres : Hid (gotP p (s : Int) col = x.2) := by show _ = _; rw [hf.out, ht.out, find_hit hx hc]
          clear hx ht
          go_wp2_with fail
          go_ret
          exact ⟨by rw [hres.out]; rfl, b3.out⟩
        | false =>
          have ht2 : Hid (row.find? (pCol2 col) = (row.drop (j + 1)).find? (pCol2 col)) := ht.out.trans (find_miss hx hc)
          clear hx ht
          go_wp2_with fail
          exact ⟨⟨j + 1, by omega, by go_num, ht2, hide trivial⟩, by simp [intOf]; omega⟩
      · have hlt' : decide ((j : Int) < (row.length : Int)) = false := by simp; omega
        have hres : Hid (gotP p (s : Int) col = -1) := by show _ = _; rw [hf.out, ht.out, List.drop_of_length_le (by omega)]; rfl
        clear ht
        go_wp2_with fail
        go_ret
        exact ⟨by rw [hres.out]; rfl, b3.out⟩

set_option maxHeartbeats 2000000 in
set_option maxRecDepth 100000 in
theorem raction_any (R O G T : Option Addr) (rn on gn tn rc oc gc tc : Nat) (p : Pk) (state col : Int) (w : World) (hp : PkAt w R O G T rn on gn tn p) (hon : on ≤ 1000000) (htn : tn ≤ 1000000) (hrn : rn ≤ 1000000) (hgn : gn ≤ 1000000) :
    Calls Try.prog 22 #[.agg #[.int .i64 p.terms, .int .i64 p.nons, .slice R rn rc, .slice O on oc, .slice G gn gc, .slice T tn tc], .int .i64 state, .int .i64 col] w fun e w' => e = .returned (.agg #[.int .i64 (actP p state col).1, .int .i64 (actP p state col).2]) ∧ Below w.heap.size w w' := by
  have b1 : Hid (Below w.heap.size w ((w.alloc (.cells #[.int .i64 p.terms, .int .i64 p.nons, .slice R rn rc, .slice O on oc, .slice G gn gc, .slice T tn tc] 33)).alloc (.cells #[.int .i64 0, .int .i64 0] 43))) := ((Below.refl _ _).alloc (Nat.le_refl _) _).alloc (by simp) _
  have R1 : Hid (Row ((w.alloc (.cells #[.int .i64 p.terms, .int .i64 p.nons, .slice R rn rc, .slice O on oc, .slice G gn gc, .slice T tn tc] 33)).alloc (.cells #[.int .i64 0, .int .i64 0] 43)) w.heap.size 33 #[.int .i64 p.terms, .int .i64 p.nons, .slice R rn rc, .slice O on oc, .slice G gn gc, .slice T tn tc]) := (Row.new _ _ _).alloc _
  have R3 : Hid (Row ((w.alloc (.cells #[.int .i64 p.terms, .int .i64 p.nons, .slice R rn rc, .slice O on oc, .slice G gn gc, .slice T tn tc] 33)).alloc (.cells #[.int .i64 0, .int .i64 0] 43)) (w.heap.size + 1) 43 #[.int .i64 0, .int .i64 0]) := by
    have := Row.new ((w.alloc (.cells #[.int .i64 p.terms, .int .i64 p.nons, .slice R rn rc, .slice O on oc, .slice G gn gc, .slice T tn tc] 33))) 43 #[.int .i64 0, .int .i64 0]
    show Row _ _ _ _
    simpa using this
  have HP := hide hp
  have hpo : Hid (p.of.length = on) := hp.of.1
  have hpr : Hid (p.rows.length = rn) := hp.rows.1
  have hpO : Hid (p.of.length = on) := hp.of.1
  have x0 := (R1.out.cell 0).trans (show _ = some (.int .i64 p.terms) from rfl)
  have x1 := (R1.out.cell 1).trans (show _ = some (.int .i64 p.nons) from rfl)
  have x2 := (R1.out.cell 2).trans (show _ = some (.slice R rn rc) from rfl)
  have x3 := (R1.out.cell 3).trans (show _ = some (.slice O on oc) from rfl)
  have x4 := (R1.out.cell 4).trans (show _ = some (.slice G gn gc) from rfl)
  have x5 := (R1.out.cell 5).trans (show _ = some (.slice T tn tc) from rfl)
  have C1 := rright_any R O G T rn on gn tn rc oc gc tc p ((w.alloc (.cells #[.int .i64 p.terms, .int .i64 p.nons, .slice R rn rc, .slice O on oc, .slice G gn gc, .slice T tn tc] 33)).alloc (.cells #[.int .i64 0, .int .i64 0] 43)) (hp.below b1.out) hon htn hrn hgn
  clear hp
  go_enter Try.func22, Try.ntmps22
  go_wp2_with fail
  clear x0 x1 x2 x3 x4 x5
  generalize ((w.alloc (.cells #[.int .i64 p.terms, .int .i64 p.nons, .slice R rn rc, .slice O on oc, .slice G gn gc, .slice T tn tc] 33)).alloc (.cells #[.int .i64 0, .int .i64 0] 43)) = w1 at *
  cases hr : rightP p with
  | false =>
    have hres : Hid (actP p state col = (0, 0)) := by show _ = _; unfold actP; rw [hr]; rfl
    rw [hr] at C1
    clear hr
    refine C1.mono ?_
    rintro e w2 ⟨rfl, hb2⟩
    have b2 := hide (below_both b1.out hb2 b1.out.size)
    have R3' := hide (R3.out.below hb2 R3.out.lt)
    have r0 := (R3'.out.cell 0).trans (show _ = some (.int .i64 0) from rfl)
    have r1 := (R3'.out.cell 1).trans (show _ = some (.int .i64 0) from rfl)
    have f0 := R3'.out.frozen 0
    have f1' := R3'.out.frozen 1
    clear C1 hb2
    go_wp2_with fail
    have P9 : Row ((w2.setCell ⟨w.heap.size + 1, 0, none⟩ (.int .i64 0)).setCell ⟨w.heap.size + 1, 1, none⟩ (.int .i64 0)) (w.heap.size + 1) 43 #[.int .i64 0, .int .i64 0] := (R3'.out.put 0 _).put 1 _
    have b9 : Below w.heap.size w ((w2.setCell ⟨w.heap.size + 1, 0, none⟩ (.int .i64 0)).setCell ⟨w.heap.size + 1, 1, none⟩ (.int .i64 0)) := below_put (below_put b2.out (by omega) 0 _) (by omega) 1 _
    clear r0 r1
    generalize (w2.setCell ⟨w.heap.size + 1, 0, none⟩ (.int .i64 0)).setCell ⟨w.heap.size + 1, 1, none⟩ (.int .i64 0) = w9 at *
    have i0 := (P9.cell 0).trans (show _ = some (.int .i64 0) from rfl)
    have i1 := (P9.cell 1).trans (show _ = some (.int .i64 0) from rfl)
    refine bodyPost_ret (v := .agg #[.int .i64 0, .int .i64 0]) (by simp [results, Try.results22, go_sem, i0, i1]) rfl ?_
    rw [hres.out]
    exact ⟨rfl, b9⟩
  | true =>
    rw [hr] at C1
    obtain ⟨_, _, _, _, _, _, q7, _, _, qo, qt, _, _⟩ := right_parts hr
    have hr' := hide hr
    have hnum : Hid (numsL p.of (p.rows.length : Int) = true) := qo
    have hq7 := hide q7
    clear hr q7 qo qt
    refine C1.mono ?_
    rintro e w2 ⟨rfl, hb2⟩
    have b2 := hide (below_both b1.out hb2 b1.out.size)
    have R3' := hide (R3.out.below hb2 R3.out.lt)
    have r0 := (R3'.out.cell 0).trans (show _ = some (.int .i64 0) from rfl)
    have r1 := (R3'.out.cell 1).trans (show _ = some (.int .i64 0) from rfl)
    have f0 := R3'.out.frozen 0
    have f1' := R3'.out.frozen 1
    have R1' := hide (R1.out.below hb2 R1.out.lt)
    clear C1 hb2
    by_cases h1 : state < 0
    · have t1 : decide (state < 0) = true := decide_eq_true h1
      have hres : Hid (actP p state col = (0, 0)) := by show _ = _; unfold actP; rw [hr'.out, decide_eq_false (show ¬ 0 ≤ state by omega)]; rfl
      clear h1
      go_wp2_with fail
      have P9 : Row ((w2.setCell ⟨w.heap.size + 1, 0, none⟩ (.int .i64 0)).setCell ⟨w.heap.size + 1, 1, none⟩ (.int .i64 0)) (w.heap.size + 1) 43 #[.int .i64 0, .int .i64 0] := (R3'.out.put 0 _).put 1 _
      have b9 : Below w.heap.size w ((w2.setCell ⟨w.heap.size + 1, 0, none⟩ (.int .i64 0)).setCell ⟨w.heap.size + 1, 1, none⟩ (.int .i64 0)) := below_put (below_put b2.out (by omega) 0 _) (by omega) 1 _
      clear r0 r1
      generalize (w2.setCell ⟨w.heap.size + 1, 0, none⟩ (.int .i64 0)).setCell ⟨w.heap.size + 1, 1, none⟩ (.int .i64 0) = w9 at *
      have i0 := (P9.cell 0).trans (show _ = some (.int .i64 0) from rfl)
      have i1 := (P9.cell 1).trans (show _ = some (.int .i64 0) from rfl)
      refine bodyPost_ret (v := .agg #[.int .i64 0, .int .i64 0]) (by simp [results, Try.results22, go_sem, i0, i1]) rfl ?_
      rw [hres.out]
      exact ⟨rfl, b9⟩
    have t1 : decide (state < 0) = false := decide_eq_false h1
    obtain ⟨s, rfl⟩ := Int.eq_ofNat_of_zero_le (show 0 ≤ state by omega)
    have xF := (R1'.out.cell 3).trans (show _ = some (.slice O on oc) from rfl)
    have xR := (R1'.out.cell 2).trans (show _ = some (.slice R rn rc) from rfl)
    clear h1
    by_cases h2 : on ≤ s
    · have t2 : decide (on ≤ s) = true := decide_eq_true h2
      have hres : Hid (actP p (s : Int) col = (0, 0)) := by
        show _ = _
        have h3 := hpo.out
        have h4 := hq7.out
        unfold actP
        rw [hr'.out, decide_eq_false (show ¬ (s : Int) < (p.of.length : Int) by omega)]
        cases decide (0 ≤ (s : Int)) <;> rfl
      clear h2
      go_wp2_with fail
      have P9 : Row ((w2.setCell ⟨w.heap.size + 1, 0, none⟩ (.int .i64 0)).setCell ⟨w.heap.size + 1, 1, none⟩ (.int .i64 0)) (w.heap.size + 1) 43 #[.int .i64 0, .int .i64 0] := (R3'.out.put 0 _).put 1 _
      have b9 : Below w.heap.size w ((w2.setCell ⟨w.heap.size + 1, 0, none⟩ (.int .i64 0)).setCell ⟨w.heap.size + 1, 1, none⟩ (.int .i64 0)) := below_put (below_put b2.out (by omega) 0 _) (by omega) 1 _
      clear r0 r1
      generalize (w2.setCell ⟨w.heap.size + 1, 0, none⟩ (.int .i64 0)).setCell ⟨w.heap.size + 1, 1, none⟩ (.int .i64 0) = w9 at *
      have i0 := (P9.cell 0).trans (show _ = some (.int .i64 0) from rfl)
      have i1 := (P9.cell 1).trans (show _ = some (.int .i64 0) from rfl)
      refine bodyPost_ret (v := .agg #[.int .i64 0, .int .i64 0]) (by simp [results, Try.results22, go_sem, i0, i1]) rfl ?_
      rw [hres.out]
      exact ⟨rfl, b9⟩
    have t2 : decide (on ≤ s) = false := decide_eq_false h2
    have hsl : s < on := by omega
    obtain ⟨b, o, z, rfl, hz, k0⟩ := (HP.out.of.below b2.out).at1 hsl
    have hzb := nums_at hnum.out hz
    obtain ⟨q, rfl⟩ := Int.eq_ofNat_of_zero_le hzb.1
    have hql : q < rn := by have := hpr.out; omega
    obtain ⟨b', o', row, A', c', rfl, hrow, k1, k2, k3, k4⟩ := (HP.out.rows.below b2.out).at_ hql
    have hf : Hid (actP p (s : Int) col = match row.find? (pCol3 col) with
      | some x => x.2
      | none => (0, 0)) := by
      show _ = _
      have h3 := hpo.out
      have h4 := hq7.out
      unfold actP
      rw [hr'.out, decide_eq_true (show (0 : Int) ≤ (s : Int) by omega), decide_eq_true (show (s : Int) < (p.of.length : Int) by omega)]
      simp only [Bool.and_self, if_true, rowAt, Int.toNat_natCast, Int.natCast_nonneg, hz, hrow, Option.bind_some]
      rfl
    have hslp : (s : Int) < (on : Int) := by omega
    have hqlp : (q : Int) < (rn : Int) := by omega
    have X0 : ∀ W, Ext w2 W → W.cell? ⟨w.heap.size, 3, none⟩ = some (.slice (some ⟨b, o, none⟩) on oc) := fun W hW => (hW.cell R1'.out.lt).trans ((R1'.out.cell 3).trans rfl)
    have X1 : ∀ W, Ext w2 W → W.cell? ⟨w.heap.size, 2, none⟩ = some (.slice (some ⟨b', o', none⟩) rn rc) := fun W hW => (hW.cell R1'.out.lt).trans ((R1'.out.cell 2).trans rfl)
    have X2 : ∀ W, Ext w2 W → W.cell? ⟨b, o + s, none⟩ = some (.int .i64 (q : Int)) := fun W hW => (hW.cell (cell_lt k0)).trans k0
    have X3 : ∀ W, Ext w2 W → W.cell? ⟨b', o' + q, none⟩ = some (.slice A' row.length c') := fun W hW => (hW.cell (cell_lt k1)).trans k1
    have hz' := hide hz
    have hrow' := hide hrow
    clear h2 hz hrow hzb k0 k1
    go_wp2_with fail
    clear xF xR
    refine wp_region_seq [(0, false), (1, false), (2, false), (3, false), (4, false), (5, false), (6, false), (7, false), (8, false), (9, false)]
      (by kernel_rfl) (by kernel_rfl) (by kernel_rfl) rfl (by kernel_rfl) (fun _ _ d _ _ h => by cases d <;> exact h) ?_
    simp only [List.map_cons, List.map_nil, List.getElem?_cons_succ, List.getElem?_cons_zero, Option.getD_some]
    iterate 10 (refine wpSeq_take rfl rfl (fun W hW => (by have e0 := X0 W hW; have e1 := X1 W hW; have e2 := X2 W hW; have e3 := X3 W hW; go_simp; with_reducible rfl)) ?_; simp only [List.setIfInBounds_toArray, List.set_cons_zero, List.set_cons_succ])
    refine wpSeq_nil ?_
    clear X0 X1 X2 X3
    have b3 : Hid (Below w.heap.size w w2.drew) := b2.out.drew
    clear r0 r1
    have K2 : In w2.drew 3 f3 A' row.length row := k2.below (Ext.drew w2)
    clear R1' f0 f1'
    have R3d : Hid (Row w2.drew (w.heap.size + 1) 43 #[.int .i64 0, .int .i64 0]) := R3'.out
    clear R3'
    generalize w2.drew = w3 at *
    have r0 := (R3d.out.cell 0).trans (show _ = some (.int .i64 0) from rfl)
    have r1 := (R3d.out.cell 1).trans (show _ = some (.int .i64 0) from rfl)
    have f0 := R3d.out.frozen 0
    have f1' := R3d.out.frozen 1
    go_wp2_with fail
    go_loopw [8] (fun i wr => ∃ j : Nat, j ≤ row.length ∧ i = .int .i64 j ∧ Hid (row.find? (pCol3 col) = (row.drop j).find? (pCol3 col)) ∧ Hid (w3 = wr)) (fun i _ => row.length - (intOf i).toNat)
    case atStart => exact ⟨0, by omega, rfl, rfl, hide rfl⟩
    case round =>
      obtain ⟨j, hj, rfl, ht, hwr⟩ := hrel
      obtain rfl := hwr.out
      by_cases hlt : j < row.length
      · have hlt' : decide ((j : Int) < (row.length : Int)) = true := by simp; omega
        have hltp : (j : Int) < (row.length : Int) := by omega
        obtain ⟨b9, o9, x, rfl, hx, z1, z2, z3⟩ := K2.at3 hlt
        cases hc : (x.1 == col) with
        | true =>
          have hres : Hid (actP p (s : Int) col = x.2) := by show _ = _; rw [hf.out, ht.out, find_hit hx hc]
          clear hx ht
          go_wp2_with fail
          have P9 : Row ((w3.setCell ⟨w.heap.size + 1, 0, none⟩ (.int .i64 x.2.1)).setCell ⟨w.heap.size + 1, 1, none⟩ (.int .i64 x.2.2)) (w.heap.size + 1) 43 #[.int .i64 x.2.1, .int .i64 x.2.2] := (R3d.out.put 0 _).put 1 _
          have b9 : Below w.heap.size w ((w3.setCell ⟨w.heap.size + 1, 0, none⟩ (.int .i64 x.2.1)).setCell ⟨w.heap.size + 1, 1, none⟩ (.int .i64 x.2.2)) := below_put (below_put b3.out (by omega) 0 _) (by omega) 1 _
          clear r0 r1
          generalize (w3.setCell ⟨w.heap.size + 1, 0, none⟩ (.int .i64 x.2.1)).setCell ⟨w.heap.size + 1, 1, none⟩ (.int .i64 x.2.2) = w9 at *
          have i0 := (P9.cell 0).trans (show _ = some (.int .i64 x.2.1) from rfl)
          have i1 := (P9.cell 1).trans (show _ = some (.int .i64 x.2.2) from rfl)
          refine bodyPost_ret (v := .agg #[.int .i64 x.2.1, .int .i64 x.2.2]) (by simp [results, Try.results22, go_sem, i0, i1]) rfl ?_
          rw [hres.out]
          exact ⟨rfl, b9⟩
        | false =>
          have ht2 : Hid (row.find? (pCol3 col) = (row.drop (j + 1)).find? (pCol3 col)) := ht.out.trans (find_miss hx hc)
          clear hx ht
          go_wp2_with fail
          exact ⟨⟨j + 1, by omega, by go_num, ht2, hide trivial⟩, by simp [intOf]; omega⟩
      · have hlt' : decide ((j : Int) < (row.length : Int)) = false := by simp; omega
        have hres : Hid (actP p (s : Int) col = (0, 0)) := by show _ = _; rw [hf.out, ht.out, List.drop_of_length_le (by omega)]; rfl
        clear ht
        go_wp2_with fail
        have P9 : Row ((w3.setCell ⟨w.heap.size + 1, 0, none⟩ (.int .i64 0)).setCell ⟨w.heap.size + 1, 1, none⟩ (.int .i64 0)) (w.heap.size + 1) 43 #[.int .i64 0, .int .i64 0] := (R3d.out.put 0 _).put 1 _
        have b9 : Below w.heap.size w ((w3.setCell ⟨w.heap.size + 1, 0, none⟩ (.int .i64 0)).setCell ⟨w.heap.size + 1, 1, none⟩ (.int .i64 0)) := below_put (below_put b3.out (by omega) 0 _) (by omega) 1 _
        clear r0 r1
        generalize (w3.setCell ⟨w.heap.size + 1, 0, none⟩ (.int .i64 0)).setCell ⟨w.heap.size + 1, 1, none⟩ (.int .i64 0) = w9 at *
        have i0 := (P9.cell 0).trans (show _ = some (.int .i64 0) from rfl)
        have i1 := (P9.cell 1).trans (show _ = some (.int .i64 0) from rfl)
        refine bodyPost_ret (v := .agg #[.int .i64 0, .int .i64 0]) (by simp [results, Try.results22, go_sem, i0, i1]) rfl ?_
        rw [hres.out]
        exact ⟨rfl, b9⟩
end Go.Proofs.Ytfldbkioepcghaa
