/- Walks over pack: what stands in a cell. -/
import Derived.Test.YtfldbkioepcghaaT7
namespace Go.Proofs.Ytfldbkioepcghaa
open Go.RowKit
set_option linter.unusedVariables false

theorem nums_at {l : List Int} {most : Int} (h : numsL l most = true) {j : Nat} {x : Int} (hx : l[j]? = some x) : 0 ≤ x ∧ x < most := by
  unfold numsL at h
  have h1 : l.any (pOut most) = false := by simpa using h
  have := List.any_eq_false.1 h1 x (List.mem_of_getElem? hx)
  simp [pOut] at this
  omega
theorem right_parts {p : Pk} (h : rightP p = true) : 0 ≤ p.terms ∧ p.terms ≤ 24 ∧ 0 ≤ p.nons ∧ p.nons ≤ 16 ∧ 1 ≤ p.of.length ∧ p.of.length ≤ 300 ∧ p.to.length = p.of.length ∧ p.rows.length ≤ 300 ∧ p.gotos.length ≤ 300 ∧
    numsL p.of (p.rows.length : Int) = true ∧ numsL p.to (p.gotos.length : Int) = true ∧ p.rows.all (rowOk p.terms) = true ∧ p.gotos.all (gotOk p.nons) = true := by
  unfold rightP at h
  simp only [Bool.and_eq_true, decide_eq_true_eq] at h
  obtain ⟨a, b, c, d, e, f, g, i, j, k, l, m, n⟩ := h
  exact ⟨a, b, c, d, e, f, g, i, j, k, l, m, n⟩
/-- A list's element at a number, if it is there. -/
def rowAt {α : Type} (l : List α) (i : Int) : Option α := if 0 ≤ i then l[i.toNat]? else none
/-- What is done, by a packed table. -/
def actP (p : Pk) (state term : Int) : Int × Int :=
  if rightP p && (decide (0 ≤ state) && decide (state < (p.of.length : Int))) then
    match (rowAt p.of state).bind (rowAt p.rows) with
    | some row => match row.find? (pCol3 term) with
      | some x => x.2
      | none => (0, 0)
    | none => (0, 0)
  else (0, 0)
def gotP (p : Pk) (state non : Int) : Int :=
  if rightP p && (decide (0 ≤ state) && decide (state < (p.of.length : Int))) then
    match (rowAt p.to state).bind (rowAt p.gotos) with
    | some row => match row.find? (pCol2 non) with
      | some x => x.2
      | none => -1
    | none => -1
  else -1
theorem fidx_find {α : Type} (p : α → Bool) : ∀ (l : List α) (i : Nat), (fidx p l i = -1 ∧ l.find? p = none) ∨ ∃ (j : Nat) (x : α), fidx p l i = ((i + j : Nat) : Int) ∧ l[j]? = some x ∧ l.find? p = some x
  | [], i => .inl ⟨rfl, rfl⟩
  | y :: l, i => by
    by_cases h : p y = true
    · exact .inr ⟨0, y, by rw [fidx, if_pos h]; rfl, rfl, by simp [h]⟩
    · rcases fidx_find p l (i + 1) with ⟨h1, h2⟩ | ⟨j, x, h1, h2, h3⟩
      · exact .inl ⟨by rw [fidx, if_neg h, h1], by simp [h, h2]⟩
      · exact .inr ⟨j + 1, x, by rw [fidx, if_neg h, h1]; congr 1; omega, by simpa using h2, by simp [h, h3]⟩

set_option maxHeartbeats 2000000 in
set_option maxRecDepth 100000 in
theorem goto_any (R O G T : Option Addr) (rn on gn tn rc oc gc tc : Nat) (p : Pk) (state col : Int) (w : World) (hp : PkAt w R O G T rn on gn tn p) (hon : on ≤ 1000000) (htn : tn ≤ 1000000) (hrn : rn ≤ 1000000) (hgn : gn ≤ 1000000) :
    Calls Try.prog 23 #[.agg #[.int .i64 p.terms, .int .i64 p.nons, .slice R rn rc, .slice O on oc, .slice G gn gc, .slice T tn tc], .int .i64 state, .int .i64 col] w (IdxPost w (gotP p state col)) := by
  have hmf : ∀ (fn : Fn) (first cap : Array Value) (w : World), (Instr.makeFunc fn first cap).run Try.prog w = .ok (.func fn first cap) w := fun _ _ _ _ => rfl
  have b1 : Hid (Below w.heap.size w ((w.alloc (.cells #[.int .i64 p.terms, .int .i64 p.nons, .slice R rn rc, .slice O on oc, .slice G gn gc, .slice T tn tc] 33)).alloc (.cells #[.int .i64 col] 3))) := ((Below.refl _ _).alloc (Nat.le_refl _) _).alloc (by simp) _
  have R1 : Hid (Row ((w.alloc (.cells #[.int .i64 p.terms, .int .i64 p.nons, .slice R rn rc, .slice O on oc, .slice G gn gc, .slice T tn tc] 33)).alloc (.cells #[.int .i64 col] 3)) w.heap.size 33 #[.int .i64 p.terms, .int .i64 p.nons, .slice R rn rc, .slice O on oc, .slice G gn gc, .slice T tn tc]) := (Row.new _ _ _).alloc _
  have R2 : Hid (Row ((w.alloc (.cells #[.int .i64 p.terms, .int .i64 p.nons, .slice R rn rc, .slice O on oc, .slice G gn gc, .slice T tn tc] 33)).alloc (.cells #[.int .i64 col] 3)) (w.heap.size + 1) 3 #[.int .i64 col]) := by
    have := Row.new (w.alloc (.cells #[.int .i64 p.terms, .int .i64 p.nons, .slice R rn rc, .slice O on oc, .slice G gn gc, .slice T tn tc] 33)) 3 #[.int .i64 col]
    show Row _ _ _ _
    simpa using this
  have HP := hide hp
  have hpo : Hid (p.to.length = tn) := hp.to.1
  have hpr : Hid (p.gotos.length = gn) := hp.gotos.1
  have hpO : Hid (p.of.length = on) := hp.of.1
  have x0 := (R1.out.cell 0).trans (show _ = some (.int .i64 p.terms) from rfl)
  have x1 := (R1.out.cell 1).trans (show _ = some (.int .i64 p.nons) from rfl)
  have x2 := (R1.out.cell 2).trans (show _ = some (.slice R rn rc) from rfl)
  have x3 := (R1.out.cell 3).trans (show _ = some (.slice O on oc) from rfl)
  have x4 := (R1.out.cell 4).trans (show _ = some (.slice G gn gc) from rfl)
  have x5 := (R1.out.cell 5).trans (show _ = some (.slice T tn tc) from rfl)
  have C1 := right_any R O G T rn on gn tn rc oc gc tc p ((w.alloc (.cells #[.int .i64 p.terms, .int .i64 p.nons, .slice R rn rc, .slice O on oc, .slice G gn gc, .slice T tn tc] 33)).alloc (.cells #[.int .i64 col] 3)) (hp.below b1.out) hon htn hrn hgn
  clear hp
  go_enter Try.func23, Try.ntmps23
  go_wp2_with fail
  clear x0 x1 x2 x3 x4 x5
  generalize ((w.alloc (.cells #[.int .i64 p.terms, .int .i64 p.nons, .slice R rn rc, .slice O on oc, .slice G gn gc, .slice T tn tc] 33)).alloc (.cells #[.int .i64 col] 3)) = w1 at *
  cases hr : rightP p with
  | false =>
    have hres : Hid (gotP p state col = -1) := by show _ = _; unfold gotP; rw [hr]; rfl
    rw [hr] at C1
    clear hr
    refine C1.mono ?_
    rintro e w2 ⟨rfl, hb2⟩
    have b2 := hide (below_both b1.out hb2 b1.out.size)
    clear C1 hb2
    go_wp2_with fail
    go_ret
    exact ⟨by rw [hres.out]; rfl, b2.out⟩
  | true =>
    rw [hr] at C1
    obtain ⟨_, _, _, _, _, _, q7, _, _, qo, qt, _, _⟩ := right_parts hr
    have hr' := hide hr
    have hnum : Hid (numsL p.to (p.gotos.length : Int) = true) := qt
    have hq7 := hide q7
    clear hr q7 qo qt
    refine C1.mono ?_
    rintro e w2 ⟨rfl, hb2⟩
    have b2 := hide (below_both b1.out hb2 b1.out.size)
    have R1' := hide (R1.out.below hb2 R1.out.lt)
    have R2' := hide (R2.out.below hb2 R2.out.lt)
    clear C1 hb2
    by_cases h1 : state < 0
    · have t1 : decide (state < 0) = true := decide_eq_true h1
      have hres : Hid (gotP p state col = -1) := by show _ = _; unfold gotP; rw [hr'.out, decide_eq_false (show ¬ 0 ≤ state by omega)]; rfl
      clear h1
      go_wp2_with fail
      go_ret
      exact ⟨by rw [hres.out]; rfl, b2.out⟩
    have t1 : decide (state < 0) = false := decide_eq_false h1
    obtain ⟨s, rfl⟩ := Int.eq_ofNat_of_zero_le (show 0 ≤ state by omega)
    have xF := (R1'.out.cell 5).trans (show _ = some (.slice T tn tc) from rfl)
    have xR := (R1'.out.cell 4).trans (show _ = some (.slice G gn gc) from rfl)
    clear h1
    by_cases h2 : tn ≤ s
    · have t2 : decide (tn ≤ s) = true := decide_eq_true h2
      have hres : Hid (gotP p (s : Int) col = -1) := by
        show _ = _
        have h3 := hpo.out
        have h4 := hq7.out
        unfold gotP
        rw [hr'.out, decide_eq_false (show ¬ (s : Int) < (p.of.length : Int) by omega)]
        cases decide (0 ≤ (s : Int)) <;> rfl
      clear h2
      go_wp2_with fail
      go_ret
      exact ⟨by rw [hres.out]; rfl, b2.out⟩
    have t2 : decide (tn ≤ s) = false := decide_eq_false h2
    have hsl : s < tn := by omega
    obtain ⟨b, o, z, rfl, hz, k0⟩ := (HP.out.to.below b2.out).at1 hsl
    have hzb := nums_at hnum.out hz
    obtain ⟨q, rfl⟩ := Int.eq_ofNat_of_zero_le hzb.1
    have hql : q < gn := by have := hpr.out; omega
    obtain ⟨b', o', row, A', c', rfl, hrow, k1, k2, k3, k4⟩ := (HP.out.gotos.below b2.out).at_ hql
    have hf : Hid (gotP p (s : Int) col = match row.find? (pCol2 col) with
      | some x => x.2
      | none => -1) := by
      show _ = _
      have h3 := hpo.out
      have h4 := hq7.out
      unfold gotP
      rw [hr'.out, decide_eq_true (show (0 : Int) ≤ (s : Int) by omega), decide_eq_true (show (s : Int) < (p.of.length : Int) by omega)]
      simp only [Bool.and_self, if_true, rowAt, Int.toNat_natCast, Int.natCast_nonneg, hz, hrow, Option.bind_some]
    have hslp : (s : Int) < (tn : Int) := by omega
    have hqlp : (q : Int) < (gn : Int) := by omega
    have X0 : ∀ W, Ext w2 W → W.cell? ⟨w.heap.size, 5, none⟩ = some (.slice (some ⟨b, o, none⟩) tn tc) := fun W hW => (hW.cell R1'.out.lt).trans ((R1'.out.cell 5).trans rfl)
    have X1 : ∀ W, Ext w2 W → W.cell? ⟨w.heap.size, 4, none⟩ = some (.slice (some ⟨b', o', none⟩) gn gc) := fun W hW => (hW.cell R1'.out.lt).trans ((R1'.out.cell 4).trans rfl)
    have X2 : ∀ W, Ext w2 W → W.cell? ⟨b, o + s, none⟩ = some (.int .i64 (q : Int)) := fun W hW => (hW.cell (cell_lt k0)).trans k0
    have X3 : ∀ W, Ext w2 W → W.cell? ⟨b', o' + q, none⟩ = some (.slice A' row.length c') := fun W hW => (hW.cell (cell_lt k1)).trans k1
    have hz' := hide hz
    have hrow' := hide hrow
    clear h2 hz hrow hzb k0 k1
    go_wp2_with fail
    clear xF xR
    refine wp_region_seq [(0, false), (1, false), (2, false), (3, false), (4, false), (5, false), (6, false), (7, false), (8, false), (9, false)]
      (by kernel_rfl) (by kernel_rfl) (by kernel_rfl) rfl (by kernel_rfl) (fun _ _ d _ _ h => by cases d <;> exact h) ?_
    simp only [List.map_cons, List.map_nil, List.getElem?_cons_succ, List.getElem?_cons_zero, Option.getD_some]
    iterate 10 (refine wpSeq_take rfl rfl (fun W hW => (by have e0 := X0 W hW; have e1 := X1 W hW; have e2 := X2 W hW; have e3 := X3 W hW; go_simp; with_reducible rfl)) ?_; simp only [List.setIfInBounds_toArray, List.set_cons_zero, List.set_cons_succ])
    refine wpSeq_nil ?_
    clear X0 X1 X2 X3
    have b3 : Hid (Below w.heap.size w w2.drew) := b2.out.drew
    have K2 : In w2.drew 2 f2 A' row.length row := k2.below (Ext.drew w2)
    have R2d : Row w2.drew (w.heap.size + 1) 3 #[.int .i64 col] := R2'.out
    go_wp2_with fail
    have C4 := fidx_57 (w.heap.size + 1) col A' row.length c' row w2.drew K2 (by omega) R2d
    refine C4.mono ?_
    rintro e w5 ⟨rfl, hb5⟩
    have b5 := hide (below_both b3.out hb5 b3.out.size)
    have K5 := k2.below (show Below w2.heap.size w2 w5 from (Ext.drew w2).trans (hb5.mono (Nat.le_refl _)))
    clear C4 hb5 K2 R2d b3 R1' R2'
    rcases fidx_find (pCol2 col) row 0 with ⟨g1, g2⟩ | ⟨j, x, g1, g2, g3⟩
    · rw [g1]
      have hres : Hid (gotP p (s : Int) col = -1) := by show _ = _; rw [hf.out, g2]
      clear g1 g2
      go_wp2_with fail
      go_ret
      exact ⟨by rw [hres.out]; rfl, b5.out⟩
    · rw [Nat.zero_add] at g1
      rw [g1]
      have hres : Hid (gotP p (s : Int) col = x.2) := by show _ = _; rw [hf.out, g3]
      have hjl : j < row.length := (List.getElem?_eq_some_iff.1 g2).1
      obtain ⟨b9, o9, x9, rfl, hx9, z1, z2⟩ := K5.at2 hjl
      obtain rfl : x = x9 := Option.some.inj (g2.symm.trans hx9)
      have hjp : (j : Int) < (row.length : Int) := by omega
      have tj : decide ((0 : Int) ≤ (j : Int)) = true := by simp
      clear g1 g2 g3 hx9
      go_wp2_with fail
      go_ret
      exact ⟨by rw [hres.out]; rfl, b5.out⟩

set_option maxHeartbeats 2000000 in
set_option maxRecDepth 100000 in
theorem action_any (R O G T : Option Addr) (rn on gn tn rc oc gc tc : Nat) (p : Pk) (state col : Int) (w : World) (hp : PkAt w R O G T rn on gn tn p) (hon : on ≤ 1000000) (htn : tn ≤ 1000000) (hrn : rn ≤ 1000000) (hgn : gn ≤ 1000000) :
    Calls Try.prog 21 #[.agg #[.int .i64 p.terms, .int .i64 p.nons, .slice R rn rc, .slice O on oc, .slice G gn gc, .slice T tn tc], .int .i64 state, .int .i64 col] w fun e w' => e = .returned (.agg #[.int .i64 (actP p state col).1, .int .i64 (actP p state col).2]) ∧ Below w.heap.size w w' := by
  have hmf : ∀ (fn : Fn) (first cap : Array Value) (w : World), (Instr.makeFunc fn first cap).run Try.prog w = .ok (.func fn first cap) w := fun _ _ _ _ => rfl
  have b1 : Hid (Below w.heap.size w (((w.alloc (.cells #[.int .i64 p.terms, .int .i64 p.nons, .slice R rn rc, .slice O on oc, .slice G gn gc, .slice T tn tc] 33)).alloc (.cells #[.int .i64 col] 3)).alloc (.cells #[.int .i64 0, .int .i64 0] 43))) := (((Below.refl _ _).alloc (Nat.le_refl _) _).alloc (by simp) _).alloc (by simp; omega) _
  have R1 : Hid (Row (((w.alloc (.cells #[.int .i64 p.terms, .int .i64 p.nons, .slice R rn rc, .slice O on oc, .slice G gn gc, .slice T tn tc] 33)).alloc (.cells #[.int .i64 col] 3)).alloc (.cells #[.int .i64 0, .int .i64 0] 43)) w.heap.size 33 #[.int .i64 p.terms, .int .i64 p.nons, .slice R rn rc, .slice O on oc, .slice G gn gc, .slice T tn tc]) := ((Row.new _ _ _).alloc _).alloc _
  have R2 : Hid (Row (((w.alloc (.cells #[.int .i64 p.terms, .int .i64 p.nons, .slice R rn rc, .slice O on oc, .slice G gn gc, .slice T tn tc] 33)).alloc (.cells #[.int .i64 col] 3)).alloc (.cells #[.int .i64 0, .int .i64 0] 43)) (w.heap.size + 1) 3 #[.int .i64 col]) := by
    have := (Row.new (w.alloc (.cells #[.int .i64 p.terms, .int .i64 p.nons, .slice R rn rc, .slice O on oc, .slice G gn gc, .slice T tn tc] 33)) 3 #[.int .i64 col]).alloc (.cells #[.int .i64 0, .int .i64 0] 43)
    show Row _ _ _ _
    simpa using this
  have R3 : Hid (Row (((w.alloc (.cells #[.int .i64 p.terms, .int .i64 p.nons, .slice R rn rc, .slice O on oc, .slice G gn gc, .slice T tn tc] 33)).alloc (.cells #[.int .i64 col] 3)).alloc (.cells #[.int .i64 0, .int .i64 0] 43)) (w.heap.size + 1 + 1) 43 #[.int .i64 0, .int .i64 0]) := by
    have := Row.new ((w.alloc (.cells #[.int .i64 p.terms, .int .i64 p.nons, .slice R rn rc, .slice O on oc, .slice G gn gc, .slice T tn tc] 33)).alloc (.cells #[.int .i64 col] 3)) 43 #[.int .i64 0, .int .i64 0]
    show Row _ _ _ _
    simpa using this
  have HP := hide hp
  have hpo : Hid (p.of.length = on) := hp.of.1
  have hpr : Hid (p.rows.length = rn) := hp.rows.1
  have hpO : Hid (p.of.length = on) := hp.of.1
  have x0 := (R1.out.cell 0).trans (show _ = some (.int .i64 p.terms) from rfl)
  have x1 := (R1.out.cell 1).trans (show _ = some (.int .i64 p.nons) from rfl)
  have x2 := (R1.out.cell 2).trans (show _ = some (.slice R rn rc) from rfl)
  have x3 := (R1.out.cell 3).trans (show _ = some (.slice O on oc) from rfl)
  have x4 := (R1.out.cell 4).trans (show _ = some (.slice G gn gc) from rfl)
  have x5 := (R1.out.cell 5).trans (show _ = some (.slice T tn tc) from rfl)
  have C1 := right_any R O G T rn on gn tn rc oc gc tc p (((w.alloc (.cells #[.int .i64 p.terms, .int .i64 p.nons, .slice R rn rc, .slice O on oc, .slice G gn gc, .slice T tn tc] 33)).alloc (.cells #[.int .i64 col] 3)).alloc (.cells #[.int .i64 0, .int .i64 0] 43)) (hp.below b1.out) hon htn hrn hgn
  clear hp
  go_enter Try.func21, Try.ntmps21
  go_wp2_with fail
  clear x0 x1 x2 x3 x4 x5
  generalize (((w.alloc (.cells #[.int .i64 p.terms, .int .i64 p.nons, .slice R rn rc, .slice O on oc, .slice G gn gc, .slice T tn tc] 33)).alloc (.cells #[.int .i64 col] 3)).alloc (.cells #[.int .i64 0, .int .i64 0] 43)) = w1 at *
  cases hr : rightP p with
  | false =>
    have hres : Hid (actP p state col = (0, 0)) := by show _ = _; unfold actP; rw [hr]; rfl
    rw [hr] at C1
    clear hr
    refine C1.mono ?_
    rintro e w2 ⟨rfl, hb2⟩
    have b2 := hide (below_both b1.out hb2 b1.out.size)
    have R3' := hide (R3.out.below hb2 R3.out.lt)
    have r0 := (R3'.out.cell 0).trans (show _ = some (.int .i64 0) from rfl)
    have r1 := (R3'.out.cell 1).trans (show _ = some (.int .i64 0) from rfl)
    have f0 := R3'.out.frozen 0
    have f1' := R3'.out.frozen 1
    clear C1 hb2
    go_wp2_with fail
    have P9 : Row ((w2.setCell ⟨w.heap.size + 1 + 1, 0, none⟩ (.int .i64 0)).setCell ⟨w.heap.size + 1 + 1, 1, none⟩ (.int .i64 0)) (w.heap.size + 1 + 1) 43 #[.int .i64 0, .int .i64 0] := (R3'.out.put 0 _).put 1 _
    have b9 : Below w.heap.size w ((w2.setCell ⟨w.heap.size + 1 + 1, 0, none⟩ (.int .i64 0)).setCell ⟨w.heap.size + 1 + 1, 1, none⟩ (.int .i64 0)) := below_put (below_put b2.out (by omega) 0 _) (by omega) 1 _
    clear r0 r1
    generalize (w2.setCell ⟨w.heap.size + 1 + 1, 0, none⟩ (.int .i64 0)).setCell ⟨w.heap.size + 1 + 1, 1, none⟩ (.int .i64 0) = w9 at *
    have i0 := (P9.cell 0).trans (show _ = some (.int .i64 0) from rfl)
    have i1 := (P9.cell 1).trans (show _ = some (.int .i64 0) from rfl)
    refine bodyPost_ret (v := .agg #[.int .i64 0, .int .i64 0]) (by simp [results, Try.results21, go_sem, i0, i1]) rfl ?_
    rw [hres.out]
    exact ⟨rfl, b9⟩
  | true =>
    rw [hr] at C1
    obtain ⟨_, _, _, _, _, _, q7, _, _, qo, qt, _, _⟩ := right_parts hr
    have hr' := hide hr
    have hnum : Hid (numsL p.of (p.rows.length : Int) = true) := qo
    have hq7 := hide q7
    clear hr q7 qo qt
    refine C1.mono ?_
    rintro e w2 ⟨rfl, hb2⟩
    have b2 := hide (below_both b1.out hb2 b1.out.size)
    have R3' := hide (R3.out.below hb2 R3.out.lt)
    have r0 := (R3'.out.cell 0).trans (show _ = some (.int .i64 0) from rfl)
    have r1 := (R3'.out.cell 1).trans (show _ = some (.int .i64 0) from rfl)
    have f0 := R3'.out.frozen 0
    have f1' := R3'.out.frozen 1
    have R1' := hide (R1.out.below hb2 R1.out.lt)
    have R2' := hide (R2.out.below hb2 R2.out.lt)
    clear C1 hb2
    by_cases h1 : state < 0
    · have t1 : decide (state < 0) = true := decide_eq_true h1
      have hres : Hid (actP p state col = (0, 0)) := by show _ = _; unfold actP; rw [hr'.out, decide_eq_false (show ¬ 0 ≤ state by omega)]; rfl
      clear h1
      go_wp2_with fail
      have P9 : Row ((w2.setCell ⟨w.heap.size + 1 + 1, 0, none⟩ (.int .i64 0)).setCell ⟨w.heap.size + 1 + 1, 1, none⟩ (.int .i64 0)) (w.heap.size + 1 + 1) 43 #[.int .i64 0, .int .i64 0] := (R3'.out.put 0 _).put 1 _
      have b9 : Below w.heap.size w ((w2.setCell ⟨w.heap.size + 1 + 1, 0, none⟩ (.int .i64 0)).setCell ⟨w.heap.size + 1 + 1, 1, none⟩ (.int .i64 0)) := below_put (below_put b2.out (by omega) 0 _) (by omega) 1 _
      clear r0 r1
      generalize (w2.setCell ⟨w.heap.size + 1 + 1, 0, none⟩ (.int .i64 0)).setCell ⟨w.heap.size + 1 + 1, 1, none⟩ (.int .i64 0) = w9 at *
      have i0 := (P9.cell 0).trans (show _ = some (.int .i64 0) from rfl)
      have i1 := (P9.cell 1).trans (show _ = some (.int .i64 0) from rfl)
      refine bodyPost_ret (v := .agg #[.int .i64 0, .int .i64 0]) (by simp [results, Try.results21, go_sem, i0, i1]) rfl ?_
      rw [hres.out]
      exact ⟨rfl, b9⟩
    have t1 : decide (state < 0) = false := decide_eq_false h1
    obtain ⟨s, rfl⟩ := Int.eq_ofNat_of_zero_le (show 0 ≤ state by omega)
    have xF := (R1'.out.cell 3).trans (show _ = some (.slice O on oc) from rfl)
    have xR := (R1'.out.cell 2).trans (show _ = some (.slice R rn rc) from rfl)
    clear h1
    by_cases h2 : on ≤ s
    · have t2 : decide (on ≤ s) = true := decide_eq_true h2
      have hres : Hid (actP p (s : Int) col = (0, 0)) := by
        show _ = _
        have h3 := hpo.out
        have h4 := hq7.out
        unfold actP
        rw [hr'.out, decide_eq_false (show ¬ (s : Int) < (p.of.length : Int) by omega)]
        cases decide (0 ≤ (s : Int)) <;> rfl
      clear h2
      go_wp2_with fail
      have P9 : Row ((w2.setCell ⟨w.heap.size + 1 + 1, 0, none⟩ (.int .i64 0)).setCell ⟨w.heap.size + 1 + 1, 1, none⟩ (.int .i64 0)) (w.heap.size + 1 + 1) 43 #[.int .i64 0, .int .i64 0] := (R3'.out.put 0 _).put 1 _
      have b9 : Below w.heap.size w ((w2.setCell ⟨w.heap.size + 1 + 1, 0, none⟩ (.int .i64 0)).setCell ⟨w.heap.size + 1 + 1, 1, none⟩ (.int .i64 0)) := below_put (below_put b2.out (by omega) 0 _) (by omega) 1 _
      clear r0 r1
      generalize (w2.setCell ⟨w.heap.size + 1 + 1, 0, none⟩ (.int .i64 0)).setCell ⟨w.heap.size + 1 + 1, 1, none⟩ (.int .i64 0) = w9 at *
      have i0 := (P9.cell 0).trans (show _ = some (.int .i64 0) from rfl)
      have i1 := (P9.cell 1).trans (show _ = some (.int .i64 0) from rfl)
      refine bodyPost_ret (v := .agg #[.int .i64 0, .int .i64 0]) (by simp [results, Try.results21, go_sem, i0, i1]) rfl ?_
      rw [hres.out]
      exact ⟨rfl, b9⟩
    have t2 : decide (on ≤ s) = false := decide_eq_false h2
    have hsl : s < on := by omega
    obtain ⟨b, o, z, rfl, hz, k0⟩ := (HP.out.of.below b2.out).at1 hsl
    have hzb := nums_at hnum.out hz
    obtain ⟨q, rfl⟩ := Int.eq_ofNat_of_zero_le hzb.1
    have hql : q < rn := by have := hpr.out; omega
    obtain ⟨b', o', row, A', c', rfl, hrow, k1, k2, k3, k4⟩ := (HP.out.rows.below b2.out).at_ hql
    have hf : Hid (actP p (s : Int) col = match row.find? (pCol3 col) with
      | some x => x.2
      | none => (0, 0)) := by
      show _ = _
      have h3 := hpo.out
      have h4 := hq7.out
      unfold actP
      rw [hr'.out, decide_eq_true (show (0 : Int) ≤ (s : Int) by omega), decide_eq_true (show (s : Int) < (p.of.length : Int) by omega)]
      simp only [Bool.and_self, if_true, rowAt, Int.toNat_natCast, Int.natCast_nonneg, hz, hrow, Option.bind_some]
    have hslp : (s : Int) < (on : Int) := by omega
    have hqlp : (q : Int) < (rn : Int) := by omega
    have X0 : ∀ W, Ext w2 W → W.cell? ⟨w.heap.size, 3, none⟩ = some (.slice (some ⟨b, o, none⟩) on oc) := fun W hW => (hW.cell R1'.out.lt).trans ((R1'.out.cell 3).trans rfl)
    have X1 : ∀ W, Ext w2 W → W.cell? ⟨w.heap.size, 2, none⟩ = some (.slice (some ⟨b', o', none⟩) rn rc) := fun W hW => (hW.cell R1'.out.lt).trans ((R1'.out.cell 2).trans rfl)
    have X2 : ∀ W, Ext w2 W → W.cell? ⟨b, o + s, none⟩ = some (.int .i64 (q : Int)) := fun W hW => (hW.cell (cell_lt k0)).trans k0
    have X3 : ∀ W, Ext w2 W → W.cell? ⟨b', o' + q, none⟩ = some (.slice A' row.length c') := fun W hW => (hW.cell (cell_lt k1)).trans k1
    have hz' := hide hz
    have hrow' := hide hrow
    clear h2 hz hrow hzb k0 k1
    go_wp2_with fail
    clear xF xR
    refine wp_region_seq [(0, false), (1, false), (2, false), (3, false), (4, false), (5, false), (6, false), (7, false), (8, false), (9, false)]
      (by kernel_rfl) (by kernel_rfl) (by kernel_rfl) rfl (by kernel_rfl) (fun _ _ d _ _ h => by cases d <;> exact h) ?_
    simp only [List.map_cons, List.map_nil, List.getElem?_cons_succ, List.getElem?_cons_zero, Option.getD_some]
    iterate 10 (refine wpSeq_take rfl rfl (fun W hW => (by have e0 := X0 W hW; have e1 := X1 W hW; have e2 := X2 W hW; have e3 := X3 W hW; go_simp; with_reducible rfl)) ?_; simp only [List.setIfInBounds_toArray, List.set_cons_zero, List.set_cons_succ])
    refine wpSeq_nil ?_
    clear X0 X1 X2 X3
    have b3 : Hid (Below w.heap.size w w2.drew) := b2.out.drew
    clear r0 r1
    have K2 : In w2.drew 3 f3 A' row.length row := k2.below (Ext.drew w2)
    have R2d : Row w2.drew (w.heap.size + 1) 3 #[.int .i64 col] := R2'.out
    go_wp2_with fail
    have C4 := fidx_55 (w.heap.size + 1) col A' row.length c' row w2.drew K2 (by omega) R2d
    refine C4.mono ?_
    rintro e w5 ⟨rfl, hb5⟩
    have b5 := hide (below_both b3.out hb5 b3.out.size)
    have R3'' := hide (R3'.out.below (show Below w2.heap.size w2 w5 from (Ext.drew w2).trans (hb5.mono (Nat.le_refl _))) R3'.out.lt)
    have r0 := (R3''.out.cell 0).trans (show _ = some (.int .i64 0) from rfl)
    have r1 := (R3''.out.cell 1).trans (show _ = some (.int .i64 0) from rfl)
    have f0'' := R3''.out.frozen 0
    have f1'' := R3''.out.frozen 1
    have K5 := k2.below (show Below w2.heap.size w2 w5 from (Ext.drew w2).trans (hb5.mono (Nat.le_refl _)))
    clear C4 hb5 K2 R2d b3 R1' R2' f0 f1'
    rcases fidx_find (pCol3 col) row 0 with ⟨g1, g2⟩ | ⟨j, x, g1, g2, g3⟩
    · rw [g1]
      have hres : Hid (actP p (s : Int) col = (0, 0)) := by show _ = _; rw [hf.out, g2]
      clear g1 g2
      go_wp2_with fail
      have P9 : Row ((w5.setCell ⟨w.heap.size + 1 + 1, 0, none⟩ (.int .i64 0)).setCell ⟨w.heap.size + 1 + 1, 1, none⟩ (.int .i64 0)) (w.heap.size + 1 + 1) 43 #[.int .i64 0, .int .i64 0] := (R3''.out.put 0 _).put 1 _
      have b9 : Below w.heap.size w ((w5.setCell ⟨w.heap.size + 1 + 1, 0, none⟩ (.int .i64 0)).setCell ⟨w.heap.size + 1 + 1, 1, none⟩ (.int .i64 0)) := below_put (below_put b5.out (by omega) 0 _) (by omega) 1 _
      clear r0 r1
      generalize (w5.setCell ⟨w.heap.size + 1 + 1, 0, none⟩ (.int .i64 0)).setCell ⟨w.heap.size + 1 + 1, 1, none⟩ (.int .i64 0) = w9 at *
      have i0 := (P9.cell 0).trans (show _ = some (.int .i64 0) from rfl)
      have i1 := (P9.cell 1).trans (show _ = some (.int .i64 0) from rfl)
      refine bodyPost_ret (v := .agg #[.int .i64 0, .int .i64 0]) (by simp [results, Try.results21, go_sem, i0, i1]) rfl ?_
      rw [hres.out]
      exact ⟨rfl, b9⟩
    · rw [Nat.zero_add] at g1
      rw [g1]
      have hres : Hid (actP p (s : Int) col = x.2) := by show _ = _; rw [hf.out, g3]
      have hjl : j < row.length := (List.getElem?_eq_some_iff.1 g2).1
      obtain ⟨b9, o9, x9, rfl, hx9, z1, z2, z3⟩ := K5.at3 hjl
      obtain rfl : x = x9 := Option.some.inj (g2.symm.trans hx9)
      have hjp : (j : Int) < (row.length : Int) := by omega
      have tj : decide ((0 : Int) ≤ (j : Int)) = true := by simp
      clear g1 g2 g3 hx9
      go_wp2_with fail
      have P9 : Row ((w5.setCell ⟨w.heap.size + 1 + 1, 0, none⟩ (.int .i64 x.2.1)).setCell ⟨w.heap.size + 1 + 1, 1, none⟩ (.int .i64 x.2.2)) (w.heap.size + 1 + 1) 43 #[.int .i64 x.2.1, .int .i64 x.2.2] := (R3''.out.put 0 _).put 1 _
      have b9 : Below w.heap.size w ((w5.setCell ⟨w.heap.size + 1 + 1, 0, none⟩ (.int .i64 x.2.1)).setCell ⟨w.heap.size + 1 + 1, 1, none⟩ (.int .i64 x.2.2)) := below_put (below_put b5.out (by omega) 0 _) (by omega) 1 _
      clear r0 r1
      generalize (w5.setCell ⟨w.heap.size + 1 + 1, 0, none⟩ (.int .i64 x.2.1)).setCell ⟨w.heap.size + 1 + 1, 1, none⟩ (.int .i64 x.2.2) = w9 at *
      have i0 := (P9.cell 0).trans (show _ = some (.int .i64 x.2.1) from rfl)
      have i1 := (P9.cell 1).trans (show _ = some (.int .i64 x.2.2) from rfl)
      refine bodyPost_ret (v := .agg #[.int .i64 x.2.1, .int .i64 x.2.2]) (by simp [results, Try.results21, go_sem, i0, i1]) rfl ?_
      rw [hres.out]
      exact ⟨rfl, b9⟩
end Go.Proofs.Ytfldbkioepcghaa
