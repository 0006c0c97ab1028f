/- Walks over the reference: may a packed table be? -/
import Derived.Test.YtfldbkioepcghaaT16
namespace Go.Proofs.Ytfldbkioepcghaa
open Go.RowKit
set_option linter.unusedVariables false

/-- Do columns rise, with nothing empty? -/
def okL {α : Type} (f : α → Int) (bad : α → Bool) : List α → Int → Int → Bool
  | [], _, _ => true
  | x :: l, most, last => !decide (f x ≤ last) && (!decide (most ≤ f x) && (!bad x && okL f bad l most (f x)))
theorem okL_eq {α : Type} (f : α → Int) (bad : α → Bool) : ∀ (l : List α) (most last : Int), okL f bad l most last = (riseL (l.map f) most last && !l.any bad)
  | [], _, _ => rfl
  | x :: l, most, last => by
    rw [okL, okL_eq f bad l most (f x), List.map_cons, riseL, List.any_cons]
    cases decide (f x ≤ last) <;> cases decide (most ≤ f x) <;> cases bad x <;> cases riseL (l.map f) most (f x) <;> cases l.any bad <;> rfl
theorem rowOk_eq (terms : Int) (r : List (Int × Int × Int)) : rowOk terms r = okL (·.1) pEmpty r (terms + 1) (-1) := (okL_eq _ _ _ _ _).symm
theorem gotOk_eq (nons : Int) (r : List (Int × Int)) : gotOk nons r = okL (·.1) pNone r nons (-1) := (okL_eq _ _ _ _ _).symm
theorem okL_drop {α : Type} {f : α → Int} {bad : α → Bool} {l : List α} {k : Nat} {x : α} {most last : Int} (hx : l[k]? = some x) :
    okL f bad (l.drop k) most last = (!decide (f x ≤ last) && (!decide (most ≤ f x) && (!bad x && okL f bad (l.drop (k + 1)) most (f x)))) := by
  have hk := (List.getElem?_eq_some_iff.1 hx).1
  rw [List.drop_eq_getElem_cons hk]
  obtain ⟨_, rfl⟩ := List.getElem?_eq_some_iff.1 hx
  rfl
theorem nums_take {l : List Int} {most : Int} {j : Nat} (hj : l.length ≤ j) (ht : (l.take j).all (fun z => !pOut most z) = true) : numsL l most = true := by
  rw [List.take_of_length_le hj] at ht
  unfold numsL
  rw [Bool.not_eq_true', List.any_eq_false]
  intro z hz
  have := List.all_eq_true.1 ht z hz
  simpa using this
theorem nums_bad {l : List Int} {most z : Int} {j : Nat} (hz : l[j]? = some z) (h : pOut most z = true) : numsL l most = false := by
  unfold numsL
  rw [any_hit hz h]
  rfl

set_option maxHeartbeats 8000000 in
set_option maxRecDepth 100000 in
theorem rright_any (R O G T : Option Addr) (rn on gn tn rc oc gc tc : Nat) (p : Pk) (w : World) (hp : PkAt w R O G T rn on gn tn p) (hon : on ≤ 1000000) (htn : tn ≤ 1000000) (hrn : rn ≤ 1000000) (hgn : gn ≤ 1000000) :
    Calls Try.prog 19 #[.agg #[.int .i64 p.terms, .int .i64 p.nons, .slice R rn rc, .slice O on oc, .slice G gn gc, .slice T tn tc]] w (EqPost w (rightP p)) := by
  have b1 := hide (below_alloc w (.cells #[.int .i64 p.terms, .int .i64 p.nons, .slice R rn rc, .slice O on oc, .slice G gn gc, .slice T tn tc] 33))
  have R1 : Hid (Row (w.alloc (.cells #[.int .i64 p.terms, .int .i64 p.nons, .slice R rn rc, .slice O on oc, .slice G gn gc, .slice T tn tc] 33)) w.heap.size 33 #[.int .i64 p.terms, .int .i64 p.nons, .slice R rn rc, .slice O on oc, .slice G gn gc, .slice T tn tc]) := Row.new _ _ _
  have HP := hide (hp.below b1.out)
  have e1 : Hid (p.rows.length = rn) := hp.rows.1
  have e2 : Hid (p.of.length = on) := hp.of.1
  have e3 : Hid (p.gotos.length = gn) := hp.gotos.1
  have e4 : Hid (p.to.length = tn) := hp.to.1
  have c0 := (R1.out.cell 0).trans (show _ = some (.int .i64 p.terms) from rfl)
  have c1 := (R1.out.cell 1).trans (show _ = some (.int .i64 p.nons) from rfl)
  have c2 := (R1.out.cell 2).trans (show _ = some (.slice R rn rc) from rfl)
  have c3 := (R1.out.cell 3).trans (show _ = some (.slice O on oc) from rfl)
  have c4 := (R1.out.cell 4).trans (show _ = some (.slice G gn gc) from rfl)
  have c5 := (R1.out.cell 5).trans (show _ = some (.slice T tn tc) from rfl)
  clear hp
  by_cases h0 : p.terms < 0
  · have th0 : decide (p.terms < 0) = true := by simp; omega
    have hres : Hid (rightP p = false) := by
      show _ = _
      have f1 := e1.out; have f2 := e2.out; have f3 := e3.out; have f4 := e4.out
      unfold rightP
      rw [show (decide (0 ≤ p.terms)) = false from decide_eq_false (by omega)]
      simp
    clear h0
    go_enter Try.func19, Try.ntmps19
    go_wp2_with fail
    go_ret
    exact ⟨by rw [hres.out]; rfl, b1.out⟩
  have th0 : decide (p.terms < 0) = false := by simp; omega
  by_cases h1 : 24 < p.terms
  · have th1 : decide (24 < p.terms) = true := by simp; omega
    have hres : Hid (rightP p = false) := by
      show _ = _
      have f1 := e1.out; have f2 := e2.out; have f3 := e3.out; have f4 := e4.out
      unfold rightP
      rw [show (decide (p.terms ≤ 24)) = false from decide_eq_false (by omega)]
      simp
    clear h1
    go_enter Try.func19, Try.ntmps19
    go_wp2_with fail
    go_ret
    exact ⟨by rw [hres.out]; rfl, b1.out⟩
  have th1 : decide (24 < p.terms) = false := by simp; omega
  by_cases h2 : p.nons < 0
  · have th2 : decide (p.nons < 0) = true := by simp; omega
    have hres : Hid (rightP p = false) := by
      show _ = _
      have f1 := e1.out; have f2 := e2.out; have f3 := e3.out; have f4 := e4.out
      unfold rightP
      rw [show (decide (0 ≤ p.nons)) = false from decide_eq_false (by omega)]
      simp
    clear h2
    go_enter Try.func19, Try.ntmps19
    go_wp2_with fail
    go_ret
    exact ⟨by rw [hres.out]; rfl, b1.out⟩
  have th2 : decide (p.nons < 0) = false := by simp; omega
  by_cases h3 : 16 < p.nons
  · have th3 : decide (16 < p.nons) = true := by simp; omega
    have hres : Hid (rightP p = false) := by
      show _ = _
      have f1 := e1.out; have f2 := e2.out; have f3 := e3.out; have f4 := e4.out
      unfold rightP
      rw [show (decide (p.nons ≤ 16)) = false from decide_eq_false (by omega)]
      simp
    clear h3
    go_enter Try.func19, Try.ntmps19
    go_wp2_with fail
    go_ret
    exact ⟨by rw [hres.out]; rfl, b1.out⟩
  have th3 : decide (16 < p.nons) = false := by simp; omega
  by_cases h4 : on < 1
  · have th4 : decide ((on : Int) < 1) = true := by simp; omega
    have hres : Hid (rightP p = false) := by
      show _ = _
      have f1 := e1.out; have f2 := e2.out; have f3 := e3.out; have f4 := e4.out
      unfold rightP
      rw [show (decide (1 ≤ p.of.length)) = false from decide_eq_false (by omega)]
      simp
    clear h4
    go_enter Try.func19, Try.ntmps19
    go_wp2_with fail
    go_ret
    exact ⟨by rw [hres.out]; rfl, b1.out⟩
  have th4 : decide ((on : Int) < 1) = false := by simp; omega
  by_cases h5 : 300 < on
  · have th5 : decide (300 < (on : Int)) = true := by simp; omega
    have hres : Hid (rightP p = false) := by
      show _ = _
      have f1 := e1.out; have f2 := e2.out; have f3 := e3.out; have f4 := e4.out
      unfold rightP
      rw [show (decide (p.of.length ≤ 300)) = false from decide_eq_false (by omega)]
      simp
    clear h5
    go_enter Try.func19, Try.ntmps19
    go_wp2_with fail
    go_ret
    exact ⟨by rw [hres.out]; rfl, b1.out⟩
  have th5 : decide (300 < (on : Int)) = false := by simp; omega
  by_cases h6 : tn ≠ on
  · have th6 : ((tn : Int) != (on : Int)) = true := by simp; omega
    have hres : Hid (rightP p = false) := by
      show _ = _
      have f1 := e1.out; have f2 := e2.out; have f3 := e3.out; have f4 := e4.out
      unfold rightP
      rw [show (decide (p.to.length = p.of.length)) = false from decide_eq_false (by omega)]
      simp
    clear h6
    go_enter Try.func19, Try.ntmps19
    go_wp2_with fail
    go_ret
    exact ⟨by rw [hres.out]; rfl, b1.out⟩
  have th6 : ((tn : Int) != (on : Int)) = false := by simp; omega
  by_cases h7 : 300 < rn
  · have th7 : decide (300 < (rn : Int)) = true := by simp; omega
    have hres : Hid (rightP p = false) := by
      show _ = _
      have f1 := e1.out; have f2 := e2.out; have f3 := e3.out; have f4 := e4.out
      unfold rightP
      rw [show (decide (p.rows.length ≤ 300)) = false from decide_eq_false (by omega)]
      simp
    clear h7
    go_enter Try.func19, Try.ntmps19
    go_wp2_with fail
    go_ret
    exact ⟨by rw [hres.out]; rfl, b1.out⟩
  have th7 : decide (300 < (rn : Int)) = false := by simp; omega
  by_cases h8 : 300 < gn
  · have th8 : decide (300 < (gn : Int)) = true := by simp; omega
    have hres : Hid (rightP p = false) := by
      show _ = _
      have f1 := e1.out; have f2 := e2.out; have f3 := e3.out; have f4 := e4.out
      unfold rightP
      rw [show (decide (p.gotos.length ≤ 300)) = false from decide_eq_false (by omega)]
      simp
    clear h8
    go_enter Try.func19, Try.ntmps19
    go_wp2_with fail
    go_ret
    exact ⟨by rw [hres.out]; rfl, b1.out⟩
  have th8 : decide (300 < (gn : Int)) = false := by simp; omega
  have hton : tn = on := by omega
  have hton' := hide hton
  have hhead : Hid (rightP p = (numsL p.of (p.rows.length : Int) && (numsL p.to (p.gotos.length : Int) && (p.rows.all (rowOk p.terms) && p.gotos.all (gotOk p.nons))))) := by
    show _ = _
    have f1 := e1.out; have f2 := e2.out; have f3 := e3.out; have f4 := e4.out
    unfold rightP
    rw [decide_eq_true (show 0 ≤ p.terms by omega), decide_eq_true (show p.terms ≤ 24 by omega), decide_eq_true (show 0 ≤ p.nons by omega), decide_eq_true (show p.nons ≤ 16 by omega), decide_eq_true (show 1 ≤ p.of.length by omega),
      decide_eq_true (show p.of.length ≤ 300 by omega), decide_eq_true (show p.to.length = p.of.length by omega), decide_eq_true (show p.rows.length ≤ 300 by omega), decide_eq_true (show p.gotos.length ≤ 300 by omega)]
    simp only [Bool.true_and]
  clear hton
  go_enter Try.func19, Try.ntmps19
  go_wp2_with fail
  clear c0 c1 c2 c3 c4 c5 th0 th1 th2 th3 th4 th5 th6 th7 th8 h0 h1 h2 h3 h4 h5 h6 h7 h8
  generalize (w.alloc (.cells #[.int .i64 p.terms, .int .i64 p.nons, .slice R rn rc, .slice O on oc, .slice G gn gc, .slice T tn tc] 33)) = w1 at *
  go_loopw [3] (fun i wr => ∃ j : Nat, j ≤ on ∧ i = .int .i64 j ∧ Hid ((p.of.take j).all (fun z => !pOut (p.rows.length : Int) z) = true) ∧ Hid ((p.to.take j).all (fun z => !pOut (p.gotos.length : Int) z) = true) ∧ Hid (Below w1.heap.size w1 wr)) (fun i _ => on - (intOf i).toNat)
  case atStart => exact ⟨0, by omega, rfl, rfl, rfl, Below.refl _ _⟩
  case round =>
    obtain ⟨j, hj, rfl, hto, htt, hb⟩ := hrel
    have Rw := hide (R1.out.below hb.out R1.out.lt)
    have c3 := (Rw.out.cell 3).trans (show _ = some (.slice O on oc) from rfl)
    by_cases hlt : j < on
    · have hlt' : decide ((j : Int) < (on : Int)) = true := by simp; omega
      have hltp : (j : Int) < (on : Int) := by omega
      have hltt : (j : Int) < (tn : Int) := by have := hton'.out; omega
      obtain ⟨b, o, z, rfl, hz, k0⟩ := (HP.out.of.below hb.out).at1 hlt
      obtain ⟨b', o', y, rfl, hy, j0⟩ := (HP.out.to.below hb.out).at1 (show j < tn by have := hton'.out; omega)
      have X0 : ∀ W, Ext wr W → W.cell? ⟨w.heap.size, 2, none⟩ = some (.slice R rn rc) := fun W hW => (hW.cell Rw.out.lt).trans ((Rw.out.cell 2).trans rfl)
      have X1 : ∀ W, Ext wr W → W.cell? ⟨w.heap.size, 3, none⟩ = some (.slice (some ⟨b, o, none⟩) on oc) := fun W hW => (hW.cell Rw.out.lt).trans ((Rw.out.cell 3).trans rfl)
      have X2 : ∀ W, Ext wr W → W.cell? ⟨w.heap.size, 4, none⟩ = some (.slice G gn gc) := fun W hW => (hW.cell Rw.out.lt).trans ((Rw.out.cell 4).trans rfl)
      have X3 : ∀ W, Ext wr W → W.cell? ⟨w.heap.size, 5, none⟩ = some (.slice (some ⟨b', o', none⟩) tn tc) := fun W hW => (hW.cell Rw.out.lt).trans ((Rw.out.cell 5).trans rfl)
      have X4 : ∀ W, Ext wr W → W.cell? ⟨b, o + j, none⟩ = some (.int .i64 z) := fun W hW => (hW.cell (cell_lt k0)).trans k0
      have X5 : ∀ W, Ext wr W → W.cell? ⟨b', o' + j, none⟩ = some (.int .i64 y) := fun W hW => (hW.cell (cell_lt j0)).trans j0
      have hbd : Hid (Below w1.heap.size w1 wr.drew) := hb.out.drew
      have hz := hide hz
      have hy := hide hy
      clear k0 j0
      by_cases g0 : z < 0
      · have tg0 : decide (z < 0) = true := decide_eq_true (by have f1 := e1.out; have f3 := e3.out; omega)
        have hres : Hid (rightP p = false) := by
          show _ = _
          rw [hhead.out, nums_bad (l := p.of) hz.out (by simp [pOut]; omega)]
          simp
        clear g0
        go_wp2_with fail
        clear c3
        refine wp_region_seq [(0, false), (1, false), (2, false), (3, false), (4, false), (5, false), (6, false), (7, false), (8, false), (9, false), (10, false), (11, false), (12, false), (13, false), (14, false), (15, false), (16, false), (17, false), (18, false), (19, false), (20, false), (21, false), (22, false), (23, false), (24, false), (25, false), (26, false), (27, false), (28, false), (29, false), (30, false), (31, false), (32, false), (33, false), (34, false), (35, false)]
          (by kernel_rfl) (by kernel_rfl) (by kernel_rfl) rfl (by kernel_rfl) (fun _ _ d _ _ h => by cases d <;> exact h) ?_
        simp only [List.map_cons, List.map_nil, List.getElem?_cons_succ, List.getElem?_cons_zero, Option.getD_some]
        iterate 36 (first
          | (refine wpSeq_take rfl rfl (fun W hW => (by have e0 := X0 W hW; have e1 := X1 W hW; have e2 := X2 W hW; have e3 := X3 W hW; have e4 := X4 W hW; have e5 := X5 W hW; go_simp; with_reducible rfl)) ?_; simp only [List.setIfInBounds_toArray, List.set_cons_zero, List.set_cons_succ])
          | (refine wpSeq_skip rfl rfl ?_; simp only [List.setIfInBounds_toArray, List.set_cons_zero, List.set_cons_succ]))
        refine wpSeq_nil ?_
        clear X0 X1 X2 X3 X4 X5
        go_wp2_with fail
        go_ret
        exact ⟨by rw [hres.out]; rfl, below_both b1.out hbd.out b1.out.size⟩
      have tg0 : decide (z < 0) = false := decide_eq_false (by have f1 := e1.out; have f3 := e3.out; omega)
      by_cases g1 : (p.rows.length : Int) ≤ z
      · have tg1 : decide ((rn : Int) ≤ z) = true := decide_eq_true (by have f1 := e1.out; have f3 := e3.out; omega)
        have hres : Hid (rightP p = false) := by
          show _ = _
          rw [hhead.out, nums_bad (l := p.of) hz.out (by simp [pOut]; omega)]
          simp
        clear g1
        go_wp2_with fail
        clear c3
        refine wp_region_seq [(0, false), (1, false), (2, false), (3, false), (4, false), (5, false), (6, false), (7, false), (8, false), (9, false), (10, false), (11, false), (12, false), (13, false), (14, false), (15, false), (16, false), (17, false), (18, false), (19, false), (20, false), (21, false), (22, false), (23, false), (24, false), (25, false), (26, false), (27, false), (28, false), (29, false), (30, false), (31, false), (32, false), (33, false), (34, false), (35, false)]
          (by kernel_rfl) (by kernel_rfl) (by kernel_rfl) rfl (by kernel_rfl) (fun _ _ d _ _ h => by cases d <;> exact h) ?_
        simp only [List.map_cons, List.map_nil, List.getElem?_cons_succ, List.getElem?_cons_zero, Option.getD_some]
        iterate 36 (first
          | (refine wpSeq_take rfl rfl (fun W hW => (by have e0 := X0 W hW; have e1 := X1 W hW; have e2 := X2 W hW; have e3 := X3 W hW; have e4 := X4 W hW; have e5 := X5 W hW; go_simp; with_reducible rfl)) ?_; simp only [List.setIfInBounds_toArray, List.set_cons_zero, List.set_cons_succ])
          | (refine wpSeq_skip rfl rfl ?_; simp only [List.setIfInBounds_toArray, List.set_cons_zero, List.set_cons_succ]))
        refine wpSeq_nil ?_
        clear X0 X1 X2 X3 X4 X5
        go_wp2_with fail
        go_ret
        exact ⟨by rw [hres.out]; rfl, below_both b1.out hbd.out b1.out.size⟩
      have tg1 : decide ((rn : Int) ≤ z) = false := decide_eq_false (by have f1 := e1.out; have f3 := e3.out; omega)
      by_cases g2 : y < 0
      · have tg2 : decide (y < 0) = true := decide_eq_true (by have f1 := e1.out; have f3 := e3.out; omega)
        have hres : Hid (rightP p = false) := by
          show _ = _
          rw [hhead.out, nums_bad (l := p.to) hy.out (by simp [pOut]; omega)]
          simp
        clear g2
        go_wp2_with fail
        clear c3
        refine wp_region_seq [(0, false), (1, false), (2, false), (3, false), (4, false), (5, false), (6, false), (7, false), (8, false), (9, false), (10, false), (11, false), (12, false), (13, false), (14, false), (15, false), (16, false), (17, false), (18, false), (19, false), (20, false), (21, false), (22, false), (23, false), (24, false), (25, false), (26, false), (27, false), (28, false), (29, false), (30, false), (31, false), (32, false), (33, false), (34, false), (35, false)]
          (by kernel_rfl) (by kernel_rfl) (by kernel_rfl) rfl (by kernel_rfl) (fun _ _ d _ _ h => by cases d <;> exact h) ?_
        simp only [List.map_cons, List.map_nil, List.getElem?_cons_succ, List.getElem?_cons_zero, Option.getD_some]
        iterate 36 (first
          | (refine wpSeq_take rfl rfl (fun W hW => (by have e0 := X0 W hW; have e1 := X1 W hW; have e2 := X2 W hW; have e3 := X3 W hW; have e4 := X4 W hW; have e5 := X5 W hW; go_simp; with_reducible rfl)) ?_; simp only [List.setIfInBounds_toArray, List.set_cons_zero, List.set_cons_succ])
          | (refine wpSeq_skip rfl rfl ?_; simp only [List.setIfInBounds_toArray, List.set_cons_zero, List.set_cons_succ]))
        refine wpSeq_nil ?_
        clear X0 X1 X2 X3 X4 X5
        go_wp2_with fail
        go_ret
        exact ⟨by rw [hres.out]; rfl, below_both b1.out hbd.out b1.out.size⟩
      have tg2 : decide (y < 0) = false := decide_eq_false (by have f1 := e1.out; have f3 := e3.out; omega)
      by_cases g3 : (p.gotos.length : Int) ≤ y
      · have tg3 : decide ((gn : Int) ≤ y) = true := decide_eq_true (by have f1 := e1.out; have f3 := e3.out; omega)
        have hres : Hid (rightP p = false) := by
          show _ = _
          rw [hhead.out, nums_bad (l := p.to) hy.out (by simp [pOut]; omega)]
          simp
        clear g3
        go_wp2_with fail
        clear c3
        refine wp_region_seq [(0, false), (1, false), (2, false), (3, false), (4, false), (5, false), (6, false), (7, false), (8, false), (9, false), (10, false), (11, false), (12, false), (13, false), (14, false), (15, false), (16, false), (17, false), (18, false), (19, false), (20, false), (21, false), (22, false), (23, false), (24, false), (25, false), (26, false), (27, false), (28, false), (29, false), (30, false), (31, false), (32, false), (33, false), (34, false), (35, false)]
          (by kernel_rfl) (by kernel_rfl) (by kernel_rfl) rfl (by kernel_rfl) (fun _ _ d _ _ h => by cases d <;> exact h) ?_
        simp only [List.map_cons, List.map_nil, List.getElem?_cons_succ, List.getElem?_cons_zero, Option.getD_some]
        iterate 36 (first
          | (refine wpSeq_take rfl rfl (fun W hW => (by have e0 := X0 W hW; have e1 := X1 W hW; have e2 := X2 W hW; have e3 := X3 W hW; have e4 := X4 W hW; have e5 := X5 W hW; go_simp; with_reducible rfl)) ?_; simp only [List.setIfInBounds_toArray, List.set_cons_zero, List.set_cons_succ])
          | (refine wpSeq_skip rfl rfl ?_; simp only [List.setIfInBounds_toArray, List.set_cons_zero, List.set_cons_succ]))
        refine wpSeq_nil ?_
        clear X0 X1 X2 X3 X4 X5
        go_wp2_with fail
        go_ret
        exact ⟨by rw [hres.out]; rfl, below_both b1.out hbd.out b1.out.size⟩
      have tg3 : decide ((gn : Int) ≤ y) = false := decide_eq_false (by have f1 := e1.out; have f3 := e3.out; omega)
      have hto2 : Hid ((p.of.take (j + 1)).all (fun z => !pOut (p.rows.length : Int) z) = true) := all_take hz.out (by simp [pOut]; omega) hto.out
      have htt2 : Hid ((p.to.take (j + 1)).all (fun z => !pOut (p.gotos.length : Int) z) = true) := all_take hy.out (by simp [pOut]; omega) htt.out
      clear g0 g1 g2 g3
      go_wp2_with fail
      clear c3
      refine wp_region_seq [(0, false), (1, false), (2, false), (3, false), (4, false), (5, false), (6, false), (7, false), (8, false), (9, false), (10, false), (11, false), (12, false), (13, false), (14, false), (15, false), (16, false), (17, false), (18, false), (19, false), (20, false), (21, false), (22, false), (23, false), (24, false), (25, false), (26, false), (27, false), (28, false), (29, false), (30, false), (31, false), (32, false), (33, false), (34, false), (35, false)]
        (by kernel_rfl) (by kernel_rfl) (by kernel_rfl) rfl (by kernel_rfl) (fun _ _ d _ _ h => by cases d <;> exact h) ?_
      simp only [List.map_cons, List.map_nil, List.getElem?_cons_succ, List.getElem?_cons_zero, Option.getD_some]
      iterate 36 (first
        | (refine wpSeq_take rfl rfl (fun W hW => (by have e0 := X0 W hW; have e1 := X1 W hW; have e2 := X2 W hW; have e3 := X3 W hW; have e4 := X4 W hW; have e5 := X5 W hW; go_simp; with_reducible rfl)) ?_; simp only [List.setIfInBounds_toArray, List.set_cons_zero, List.set_cons_succ])
        | (refine wpSeq_skip rfl rfl ?_; simp only [List.setIfInBounds_toArray, List.set_cons_zero, List.set_cons_succ]))
      refine wpSeq_nil ?_
      clear X0 X1 X2 X3 X4 X5
      go_wp2_with fail
      exact ⟨⟨j + 1, by omega, by go_num, hto2, htt2, hbd⟩, by simp [intOf]; omega⟩
    · have hlt' : decide ((j : Int) < (on : Int)) = false := by simp; omega
      have hnu : Hid (rightP p = (p.rows.all (rowOk p.terms) && p.gotos.all (gotOk p.nons))) := by
        show _ = _
        rw [hhead.out, nums_take (by rw [e2.out]; omega) hto.out, nums_take (by rw [e4.out, hton'.out]; omega) htt.out]
        rfl
      clear hto htt hhead
      go_wp2_with fail
      clear hlt hlt' hj c3 Rw
      generalize wr = wm at *
      go_loopw [4] (fun i wr => ∃ j : Nat, j ≤ rn ∧ i = .int .i64 j ∧ Hid ((p.rows.take j).all (rowOk p.terms) = true) ∧ Hid (Below w1.heap.size w1 wr)) (fun i _ => rn - (intOf i).toNat)
      case atStart => exact ⟨0, by omega, rfl, rfl, hb⟩
      case round =>
        clear hb
        obtain ⟨j, hj, rfl, ht, hb⟩ := hrel
        have Rw := hide (R1.out.below hb.out R1.out.lt)
        have c2 := (Rw.out.cell 2).trans (show _ = some (.slice R rn rc) from rfl)
        by_cases hlt : j < rn
        · have hlt' : decide ((j : Int) < (rn : Int)) = true := by simp; omega
          have hltp : (j : Int) < (rn : Int) := by omega
          obtain ⟨b, o, row, A', c', rfl, hr, k1, k2, k3, k4⟩ := (HP.out.rows.below hb.out).at_ hlt
          have hr := hide hr
          have k1 := hide k1
          go_wp2_with fail
          clear c2
          generalize wr = wo at *
          go_loopw [5, 6] (fun last k wr => ∃ (i : Nat) (z : Int), i ≤ row.length ∧ k = .int .i64 i ∧ last = .int .i64 z ∧ Hid (rowOk p.terms row = okL (·.1) pEmpty (row.drop i) (p.terms + 1) z) ∧ Hid (Below wo.heap.size wo wr)) (fun _ k _ => row.length - (intOf k).toNat)
          case atStart => exact ⟨0, -1, by omega, rfl, rfl, rowOk_eq _ _, Below.refl _ _⟩
          case round =>
            obtain ⟨i, z, hi, rfl, rfl, hok, hbi⟩ := hrel
            have Ri := hide (Rw.out.below hbi.out Rw.out.lt)
            have c2 := (Ri.out.cell 2).trans (show _ = some (.slice (some ⟨b, o, none⟩) rn rc) from rfl)
            have y1 := (hbi.out.cell (cell_lt k1.out)).trans k1.out
            by_cases hli : i < row.length
            · have hli' : decide ((i : Int) < (row.length : Int)) = true := by simp; omega
              have hlip : (i : Int) < (row.length : Int) := by omega
              obtain ⟨b5, o5, ⟨x, a1, a2⟩, rfl, hx, q0, q1, q2⟩ := (k2.below hbi.out).at3 hli
              have V : Hid (Row (wr.alloc (.cells #[.int .i64 x, .int .i64 a1, .int .i64 a2] 54)) wr.heap.size 54 #[.int .i64 x, .int .i64 a1, .int .i64 a2]) := Row.new _ _ _
              have Rv : Hid (Row (wr.alloc (.cells #[.int .i64 x, .int .i64 a1, .int .i64 a2] 54)) w.heap.size 33 #[.int .i64 p.terms, .int .i64 p.nons, .slice (some ⟨b, o, none⟩) rn rc, .slice O on oc, .slice G gn gc, .slice T tn tc]) := Ri.out.alloc _
              have hbv : Hid (Below wo.heap.size wo (wr.alloc (.cells #[.int .i64 x, .int .i64 a1, .int .i64 a2] 54))) := hbi.out.alloc hbi.out.size _
              have v0 := (V.out.cell 0).trans (show _ = some (.int .i64 x) from rfl)
              have v1 := (V.out.cell 1).trans (show _ = some (.int .i64 a1) from rfl)
              have v2 := (V.out.cell 2).trans (show _ = some (.int .i64 a2) from rfl)
              have hq := eql43 a1 a2 0 0
              have m0 := (Rv.out.cell 0).trans (show _ = some (.int .i64 (p.terms)) from rfl)
              have hok2 : Hid (rowOk p.terms row = (!decide (x ≤ z) && (!decide (p.terms + 1 ≤ x) && (!pEmpty (x, a1, a2) && okL (·.1) pEmpty (row.drop (i + 1)) (p.terms + 1) x)))) := hok.out.trans (okL_drop hx)
              clear hx hok
              by_cases g1 : x ≤ z
              · have t1 : decide (x ≤ z) = true := decide_eq_true g1
                have hf : rowOk p.terms row = false := by rw [hok2.out, t1]; rfl
                have hres : Hid (rightP p = false) := by show _ = _; rw [hnu.out, all_false hr.out hf]; rfl
                clear g1 hok2 hf
                go_wp2_with fail
                go_ret
                exact ⟨by rw [hres.out]; rfl, below_both b1.out (hb.out.trans (hbv.out.mono hb.out.size)) b1.out.size⟩
              have t1 : decide (x ≤ z) = false := decide_eq_false g1
              by_cases g2 : p.terms + 1 ≤ x
              · have t2 : decide (p.terms < x) = true := decide_eq_true (by omega)
                have hf : rowOk p.terms row = false := by rw [hok2.out, t1, decide_eq_true g2]; rfl
                have hres : Hid (rightP p = false) := by show _ = _; rw [hnu.out, all_false hr.out hf]; rfl
                clear g1 g2 hok2 hf
                go_wp2_with fail
                go_ret
                exact ⟨by rw [hres.out]; rfl, below_both b1.out (hb.out.trans (hbv.out.mono hb.out.size)) b1.out.size⟩
              have t2 : decide (p.terms < x) = false := decide_eq_false (by omega)
              cases g3 : pEmpty (x, a1, a2) with
              | true =>
                have hf : rowOk p.terms row = false := by rw [hok2.out, t1, decide_eq_false g2, g3]; rfl
                have hres : Hid (rightP p = false) := by show _ = _; rw [hnu.out, all_false hr.out hf]; rfl
                obtain ⟨ra, rb⟩ : a1 = 0 ∧ a2 = 0 := by simpa [pEmpty] using g3
                have hq2 : decide ((a1, a2) = ((0, 0) : Int × Int)) = true := by rw [ra, rb]; rfl
                rw [hq2] at hq
                clear ra rb hq2
                clear g1 g2 g3 hok2 hf
                go_wp2_with fail
                go_ret
                exact ⟨by rw [hres.out]; rfl, below_both b1.out (hb.out.trans (hbv.out.mono hb.out.size)) b1.out.size⟩
              | false =>
                have hok3 : Hid (rowOk p.terms row = okL (·.1) pEmpty (row.drop (i + 1)) (p.terms + 1) x) := by show _ = _; rw [hok2.out, t1, decide_eq_false g2, g3]; rfl
                have hq2 : decide ((a1, a2) = ((0, 0) : Int × Int)) = false := by
                  rw [decide_eq_false_iff_not]
                  intro h
                  injection h with ra rb
                  subst ra rb
                  simp [pEmpty] at g3
                rw [hq2] at hq
                clear hq2
                clear g1 g2 g3 hok2
                go_wp2_with fail
                exact ⟨⟨i + 1, x, by omega, by go_num, rfl, hok3, hbv⟩, by simp [intOf]; omega⟩
            · have hli' : decide ((i : Int) < (row.length : Int)) = false := by simp; omega
              have ht2 : Hid ((p.rows.take (j + 1)).all (rowOk p.terms) = true) := all_take hr.out (by rw [hok.out, List.drop_of_length_le (by omega)]; rfl) ht.out
              have hb2 : Hid (Below w1.heap.size w1 wr) := hb.out.trans (hbi.out.mono hb.out.size)
              clear hok
              go_wp2_with fail
              exact ⟨⟨j + 1, by omega, by go_num, ht2, hb2⟩, by simp [intOf]; omega⟩
        · have hlt' : decide ((j : Int) < (rn : Int)) = false := by simp; omega
          have hrw : Hid (rightP p = p.gotos.all (gotOk p.nons)) := by
            show _ = _
            rw [hnu.out, all_end (by rw [e1.out]; omega) ht.out]
            rfl
          clear ht hnu
          go_wp2_with fail
          clear hlt hlt' hj c2 Rw
          generalize wr = wm2 at *
          go_loopw [8] (fun i wr => ∃ j : Nat, j ≤ gn ∧ i = .int .i64 j ∧ Hid ((p.gotos.take j).all (gotOk p.nons) = true) ∧ Hid (Below w1.heap.size w1 wr)) (fun i _ => gn - (intOf i).toNat)
          case atStart => exact ⟨0, by omega, rfl, rfl, hb⟩
          case round =>
            clear hb
            obtain ⟨j, hj, rfl, ht, hb⟩ := hrel
            have Rw := hide (R1.out.below hb.out R1.out.lt)
            have c2 := (Rw.out.cell 4).trans (show _ = some (.slice G gn gc) from rfl)
            by_cases hlt : j < gn
            · have hlt' : decide ((j : Int) < (gn : Int)) = true := by simp; omega
              have hltp : (j : Int) < (gn : Int) := by omega
              obtain ⟨b, o, row, A', c', rfl, hr, k1, k2, k3, k4⟩ := (HP.out.gotos.below hb.out).at_ hlt
              have hr := hide hr
              have k1 := hide k1
              go_wp2_with fail
              clear c2
              generalize wr = wo at *
              go_loopw [9, 10] (fun last k wr => ∃ (i : Nat) (z : Int), i ≤ row.length ∧ k = .int .i64 i ∧ last = .int .i64 z ∧ Hid (gotOk p.nons row = okL (·.1) pNone (row.drop i) (p.nons) z) ∧ Hid (Below wo.heap.size wo wr)) (fun _ k _ => row.length - (intOf k).toNat)
              case atStart => exact ⟨0, -1, by omega, rfl, rfl, gotOk_eq _ _, Below.refl _ _⟩
              case round =>
                obtain ⟨i, z, hi, rfl, rfl, hok, hbi⟩ := hrel
                have Ri := hide (Rw.out.below hbi.out Rw.out.lt)
                have c2 := (Ri.out.cell 4).trans (show _ = some (.slice (some ⟨b, o, none⟩) gn gc) from rfl)
                have y1 := (hbi.out.cell (cell_lt k1.out)).trans k1.out
                by_cases hli : i < row.length
                · have hli' : decide ((i : Int) < (row.length : Int)) = true := by simp; omega
                  have hlip : (i : Int) < (row.length : Int) := by omega
                  obtain ⟨b5, o5, ⟨x, a1⟩, rfl, hx, q0, q1⟩ := (k2.below hbi.out).at2 hli
                  have V : Hid (Row (wr.alloc (.cells #[.int .i64 x, .int .i64 a1] 59)) wr.heap.size 59 #[.int .i64 x, .int .i64 a1]) := Row.new _ _ _
                  have Rv : Hid (Row (wr.alloc (.cells #[.int .i64 x, .int .i64 a1] 59)) w.heap.size 33 #[.int .i64 p.terms, .int .i64 p.nons, .slice R rn rc, .slice O on oc, .slice (some ⟨b, o, none⟩) gn gc, .slice T tn tc]) := Ri.out.alloc _
                  have hbv : Hid (Below wo.heap.size wo (wr.alloc (.cells #[.int .i64 x, .int .i64 a1] 59))) := hbi.out.alloc hbi.out.size _
                  have v0 := (V.out.cell 0).trans (show _ = some (.int .i64 x) from rfl)
                  have v1 := (V.out.cell 1).trans (show _ = some (.int .i64 a1) from rfl)
                  have m0 := (Rv.out.cell 1).trans (show _ = some (.int .i64 (p.nons)) from rfl)
                  have hok2 : Hid (gotOk p.nons row = (!decide (x ≤ z) && (!decide (p.nons ≤ x) && (!pNone (x, a1) && okL (·.1) pNone (row.drop (i + 1)) (p.nons) x)))) := hok.out.trans (okL_drop hx)
                  clear hx hok
                  by_cases g1 : x ≤ z
                  · have t1 : decide (x ≤ z) = true := decide_eq_true g1
                    have hf : gotOk p.nons row = false := by rw [hok2.out, t1]; rfl
                    have hres : Hid (rightP p = false) := by show _ = _; rw [hrw.out, all_false hr.out hf]; skip
                    clear g1 hok2 hf
                    go_wp2_with fail
                    go_ret
                    exact ⟨by rw [hres.out]; rfl, below_both b1.out (hb.out.trans (hbv.out.mono hb.out.size)) b1.out.size⟩
                  have t1 : decide (x ≤ z) = false := decide_eq_false g1
                  by_cases g2 : p.nons ≤ x
                  · have t2 : decide (p.nons ≤ x) = true := decide_eq_true (by omega)
                    have hf : gotOk p.nons row = false := by rw [hok2.out, t1, decide_eq_true g2]; rfl
                    have hres : Hid (rightP p = false) := by show _ = _; rw [hrw.out, all_false hr.out hf]; skip
                    clear g1 g2 hok2 hf
                    go_wp2_with fail
                    go_ret
                    exact ⟨by rw [hres.out]; rfl, below_both b1.out (hb.out.trans (hbv.out.mono hb.out.size)) b1.out.size⟩
                  have t2 : decide (p.nons ≤ x) = false := decide_eq_false (by omega)
                  cases g3 : pNone (x, a1) with
                  | true =>
                    have hf : gotOk p.nons row = false := by rw [hok2.out, t1, decide_eq_false g2, g3]; rfl
                    have hres : Hid (rightP p = false) := by show _ = _; rw [hrw.out, all_false hr.out hf]; skip
                    have t3 : (a1 == (-1 : Int)) = true := g3
                    clear g1 g2 g3 hok2 hf
                    go_wp2_with fail
                    go_ret
                    exact ⟨by rw [hres.out]; rfl, below_both b1.out (hb.out.trans (hbv.out.mono hb.out.size)) b1.out.size⟩
                  | false =>
                    have hok3 : Hid (gotOk p.nons row = okL (·.1) pNone (row.drop (i + 1)) (p.nons) x) := by show _ = _; rw [hok2.out, t1, decide_eq_false g2, g3]; rfl
                    have t3 : (a1 == (-1 : Int)) = false := g3
                    clear g1 g2 g3 hok2
                    go_wp2_with fail
                    exact ⟨⟨i + 1, x, by omega, by go_num, rfl, hok3, hbv⟩, by simp [intOf]; omega⟩
                · have hli' : decide ((i : Int) < (row.length : Int)) = false := by simp; omega
                  have ht2 : Hid ((p.gotos.take (j + 1)).all (gotOk p.nons) = true) := all_take hr.out (by rw [hok.out, List.drop_of_length_le (by omega)]; rfl) ht.out
                  have hb2 : Hid (Below w1.heap.size w1 wr) := hb.out.trans (hbi.out.mono hb.out.size)
                  clear hok
                  go_wp2_with fail
                  exact ⟨⟨j + 1, by omega, by go_num, ht2, hb2⟩, by simp [intOf]; omega⟩
            · have hlt' : decide ((j : Int) < (gn : Int)) = false := by simp; omega
              have hres : Hid (rightP p = true) := by show _ = _; rw [hrw.out, all_end (by rw [e3.out]; omega) ht.out]
              clear ht hrw
              go_wp2_with fail
              go_ret
              exact ⟨by rw [hres.out]; rfl, below_both b1.out hb.out b1.out.size⟩
end Go.Proofs.Ytfldbkioepcghaa
