/- The walk of PackAsks. -/
import Derived.Test.YtfldbkioepcghaaT20
import Derived.Test.YtfldbkioepcghaaT22
namespace Go.Proofs.Ytfldbkioepcghaa
open Go.RowKit
set_option linter.unusedVariables false

theorem great_parts {p : Pk} (h : greatP p = false) : p.rows.length ≤ 310 ∧ p.gotos.length ≤ 310 ∧ p.of.length ≤ 310 ∧ p.to.length ≤ 310 := by
  unfold greatP at h
  simp only [Bool.or_eq_false_iff, decide_eq_false_iff_not] at h
  omega

set_option maxHeartbeats 4000000 in
set_option maxRecDepth 100000 in
theorem law_asks (R O G T : Option Addr) (rn on gn tn rc oc gc tc : Nat) (p : Pk) (state col : Int) (w : World) (hp : PkAt w R O G T rn on gn tn p) (h1 : rn ≤ 9223372036854775807) (h2 : on ≤ 9223372036854775807) (h3 : gn ≤ 9223372036854775807) (h4 : tn ≤ 9223372036854775807) :
    Calls Try.prog 5 #[.agg #[.int .i64 p.terms, .int .i64 p.nons, .slice R rn rc, .slice O on oc, .slice G gn gc, .slice T tn tc], .int .i64 state, .int .i64 col] w fun e w' => e = .returned (.bool true) ∧ Below w.heap.size w w' := by
  have b1 := hide (below_alloc w (.cells #[.int .i64 p.terms, .int .i64 p.nons, .slice R rn rc, .slice O on oc, .slice G gn gc, .slice T tn tc] 33))
  have R1 : Hid (Row (w.alloc (.cells #[.int .i64 p.terms, .int .i64 p.nons, .slice R rn rc, .slice O on oc, .slice G gn gc, .slice T tn tc] 33)) w.heap.size 33 #[.int .i64 p.terms, .int .i64 p.nons, .slice R rn rc, .slice O on oc, .slice G gn gc, .slice T tn tc]) := Row.new _ _ _
  have HP := hide (hp.below b1.out)
  have er : Hid (p.rows.length = rn) := hp.rows.1
  have eo : Hid (p.of.length = on) := hp.of.1
  have eg : Hid (p.gotos.length = gn) := hp.gotos.1
  have et : Hid (p.to.length = tn) := hp.to.1
  clear hp
  go_enter Try.func5, Try.ntmps5
  go_wp2_with fail
  generalize w.alloc (.cells #[.int .i64 p.terms, .int .i64 p.nons, .slice R rn rc, .slice O on oc, .slice G gn gc, .slice T tn tc] 33) = w1 at *
  refine (alive18 w1).mono ?_
  rintro e w2 ⟨rfl, hb2⟩
  have b2 := hide (below_both b1.out hb2 b1.out.size)
  have R2 := hide (R1.out.below hb2 R1.out.lt)
  have HP2 := hide (HP.out.below hb2)
  clear R1 HP b1 hb2
  have x0 := (R2.out.cell 0).trans (show _ = some (.int .i64 p.terms) from rfl)
  have x1 := (R2.out.cell 1).trans (show _ = some (.int .i64 p.nons) from rfl)
  have x2 := (R2.out.cell 2).trans (show _ = some (.slice R rn rc) from rfl)
  have x3 := (R2.out.cell 3).trans (show _ = some (.slice O on oc) from rfl)
  have x4 := (R2.out.cell 4).trans (show _ = some (.slice G gn gc) from rfl)
  have x5 := (R2.out.cell 5).trans (show _ = some (.slice T tn tc) from rfl)
  have C1 := great18_any R O G T rn on gn tn rc oc gc tc p w2 HP2.out h1 h2 h3 h4
  go_wp2_with fail
  clear x0 x1 x2 x3 x4 x5
  cases hg : greatP p with
  | true =>
    rw [hg] at C1
    refine C1.mono ?_
    rintro e w3 ⟨rfl, hb3⟩
    have b3 := hide (below_both b2.out hb3 b2.out.size)
    clear C1 hb3 hg
    go_wp2_with fail
    go_ret
    exact ⟨rfl, b3.out⟩
  | false =>
    rw [hg] at C1
    obtain ⟨g1, g2, g3, g4⟩ := great_parts hg
    have l1 : rn ≤ 1000000 := by have := er.out; omega
    have l2 : on ≤ 1000000 := by have := eo.out; omega
    have l3 : gn ≤ 1000000 := by have := eg.out; omega
    have l4 : tn ≤ 1000000 := by have := et.out; omega
    clear hg g1 g2 g3 g4
    refine C1.mono ?_
    rintro e w3 ⟨rfl, hb3⟩
    have b3 := hide (below_both b2.out hb3 b2.out.size)
    have R3 := hide (R2.out.below hb3 R2.out.lt)
    have HP3 := hide (HP2.out.below hb3)
    clear C1 hb3 R2 HP2 b2
    go_wp2_with fail
    have X0 : ∀ W, Ext w3 W → W.cell? ⟨w.heap.size, 0, none⟩ = some (.int .i64 p.terms) := fun W hW => (hW.cell R3.out.lt).trans ((R3.out.cell 0).trans rfl)
    have X1 : ∀ W, Ext w3 W → W.cell? ⟨w.heap.size, 1, none⟩ = some (.int .i64 p.nons) := fun W hW => (hW.cell R3.out.lt).trans ((R3.out.cell 1).trans rfl)
    have X2 : ∀ W, Ext w3 W → W.cell? ⟨w.heap.size, 2, none⟩ = some (.slice R rn rc) := fun W hW => (hW.cell R3.out.lt).trans ((R3.out.cell 2).trans rfl)
    have X3 : ∀ W, Ext w3 W → W.cell? ⟨w.heap.size, 3, none⟩ = some (.slice O on oc) := fun W hW => (hW.cell R3.out.lt).trans ((R3.out.cell 3).trans rfl)
    have X4 : ∀ W, Ext w3 W → W.cell? ⟨w.heap.size, 4, none⟩ = some (.slice G gn gc) := fun W hW => (hW.cell R3.out.lt).trans ((R3.out.cell 4).trans rfl)
    have X5 : ∀ W, Ext w3 W → W.cell? ⟨w.heap.size, 5, none⟩ = some (.slice T tn tc) := fun W hW => (hW.cell R3.out.lt).trans ((R3.out.cell 5).trans rfl)
    have hq : ∀ W, (binOp .eql 43 (.agg #[.int .i64 (actP p state col).1, .int .i64 (actP p state col).2]) (.agg #[.int .i64 (actP p state col).1, .int .i64 (actP p state col).2])).run Try.prog W = .ok (.bool true) W := fun W => by
      have := eql43 (actP p state col).1 (actP p state col).2 (actP p state col).1 (actP p state col).2 W
      rwa [decide_eq_true rfl] at this
    have hgg : (gotP p state col == gotP p state col) = true := by simp
    refine wp_region_seq [(0, false), (1, false), (2, false), (4, false), (5, false), (6, false), (3, true), (7, true), (8, false), (9, false), (10, false), (11, false), (12, false), (14, false), (15, false), (16, false), (13, true), (17, true), (18, false), (19, false), (20, false)]
      (by kernel_rfl) (by kernel_rfl) (by kernel_rfl) rfl (by kernel_rfl) (fun _ _ d _ _ h => by cases d <;> exact h) ?_
    simp only [List.map_cons, List.map_nil, List.getElem?_cons_succ, List.getElem?_cons_zero, Option.getD_some]
    iterate 6 (refine wpSeq_take rfl rfl (fun W hW => (by have e0 := X0 W hW; have e1 := X1 W hW; have e2 := X2 W hW; have e3 := X3 W hW; have e4 := X4 W hW; have e5 := X5 W hW; go_simp; with_reducible rfl)) ?_; simp only [List.setIfInBounds_toArray, List.set_cons_zero, List.set_cons_succ])
    refine wpSeq_alone rfl (fun K hK => ?_)
    go_wp2_with fail
    refine (action_any R O G T rn on gn tn rc oc gc tc p state col w3.drew (HP3.out.below (Ext.drew w3)) l2 l4 l1 l3).mono ?_
    rintro e w5 ⟨rfl, hb5⟩
    have b5 := below_both (Ext.drew w3) hb5 (Nat.le_refl _)
    refine hK _ _ w5 b5 (Ext.refl _) ?_
    clear hK K hb5
    refine wpSeq_alone rfl (fun K hK => ?_)
    go_wp2_with fail
    refine (raction_any R O G T rn on gn tn rc oc gc tc p state col w5 (HP3.out.below b5) l2 l4 l1 l3).mono ?_
    rintro e w6 ⟨rfl, hb6⟩
    have b6 := below_both b5 hb6 b5.size
    refine hK _ _ w6 hb6 (Ext.refl _) ?_
    clear hK K hb6 b5 X0 X1 X2 X3 X4 X5
    have R6 := hide (R3.out.below b6 R3.out.lt)
    have HP6 := hide (HP3.out.below b6)
    have b6 := hide (below_both b3.out b6 b3.out.size)
    clear R3 HP3 b3
    have X0 : ∀ W, Ext w6 W → W.cell? ⟨w.heap.size, 0, none⟩ = some (.int .i64 p.terms) := fun W hW => (hW.cell R6.out.lt).trans ((R6.out.cell 0).trans rfl)
    have X1 : ∀ W, Ext w6 W → W.cell? ⟨w.heap.size, 1, none⟩ = some (.int .i64 p.nons) := fun W hW => (hW.cell R6.out.lt).trans ((R6.out.cell 1).trans rfl)
    have X2 : ∀ W, Ext w6 W → W.cell? ⟨w.heap.size, 2, none⟩ = some (.slice R rn rc) := fun W hW => (hW.cell R6.out.lt).trans ((R6.out.cell 2).trans rfl)
    have X3 : ∀ W, Ext w6 W → W.cell? ⟨w.heap.size, 3, none⟩ = some (.slice O on oc) := fun W hW => (hW.cell R6.out.lt).trans ((R6.out.cell 3).trans rfl)
    have X4 : ∀ W, Ext w6 W → W.cell? ⟨w.heap.size, 4, none⟩ = some (.slice G gn gc) := fun W hW => (hW.cell R6.out.lt).trans ((R6.out.cell 4).trans rfl)
    have X5 : ∀ W, Ext w6 W → W.cell? ⟨w.heap.size, 5, none⟩ = some (.slice T tn tc) := fun W hW => (hW.cell R6.out.lt).trans ((R6.out.cell 5).trans rfl)
    iterate 8 (refine wpSeq_take rfl rfl (fun W hW => (by have e0 := X0 W hW; have e1 := X1 W hW; have e2 := X2 W hW; have e3 := X3 W hW; have e4 := X4 W hW; have e5 := X5 W hW; have eq := hq W; go_simp; with_reducible rfl)) ?_; simp only [List.setIfInBounds_toArray, List.set_cons_zero, List.set_cons_succ])
    refine wpSeq_alone rfl (fun K hK => ?_)
    go_wp2_with fail
    refine (goto_any R O G T rn on gn tn rc oc gc tc p state col w6 HP6.out l2 l4 l1 l3).mono ?_
    rintro e w7 ⟨rfl, hb7⟩
    refine hK _ _ w7 hb7 (Ext.refl _) ?_
    clear hK K X0 X1 X2 X3 X4 X5
    refine wpSeq_alone rfl (fun K hK => ?_)
    go_wp2_with fail
    refine (rgoto_any R O G T rn on gn tn rc oc gc tc p state col w7 (HP6.out.below hb7) l2 l4 l1 l3).mono ?_
    rintro e w8 ⟨rfl, hb8⟩
    have b8 := hide (below_both (below_both b6.out hb7 b6.out.size) hb8 (Nat.le_trans b6.out.size hb7.size))
    refine hK _ _ w8 hb8 (Ext.refl _) ?_
    clear hK K hb7 hb8
    iterate 3 (refine wpSeq_take rfl rfl (fun W hW => (by go_simp; with_reducible rfl)) ?_; simp only [List.setIfInBounds_toArray, List.set_cons_zero, List.set_cons_succ])
    refine wpSeq_nil ?_
    go_wp2_with fail
    go_ret
    exact ⟨rfl, b8.out⟩
end Go.Proofs.Ytfldbkioepcghaa
