/- The walk of PackUnpacks. -/
import Derived.Test.YtfldbkioepcghaaT21
import Derived.Test.YtfldbkioepcghaaL5
namespace Go.Proofs.Ytfldbkioepcghaa
open Go.RowKit
set_option linter.unusedVariables false

theorem unpack_lens (p : Pk) : (unpackE p).1.acts.length ≤ p.of.length ∧ (unpackE p).1.gots.length ≤ p.to.length := by
  unfold unpackE
  split
  · simp [unpackT]
  · simp

set_option maxHeartbeats 4000000 in
set_option maxRecDepth 100000 in
theorem law_unpacks (R O G T R' O' G' T' : Option Addr) (rn on gn tn rc oc gc tc rn' on' gn' tn' rc' oc' gc' tc' : Nat) (p q : Pk) (w : World) (hp : PkAt w R O G T rn on gn tn p) (hq : PkAt w R' O' G' T' rn' on' gn' tn' q)
    (h1 : rn ≤ 9223372036854775807) (h2 : on ≤ 9223372036854775807) (h3 : gn ≤ 9223372036854775807) (h4 : tn ≤ 9223372036854775807) (h5 : rn' ≤ 9223372036854775807) (h6 : on' ≤ 9223372036854775807) (h7 : gn' ≤ 9223372036854775807) (h8 : tn' ≤ 9223372036854775807) :
    Calls Try.prog 4 #[.agg #[.int .i64 p.terms, .int .i64 p.nons, .slice R rn rc, .slice O on oc, .slice G gn gc, .slice T tn tc], .agg #[.int .i64 q.terms, .int .i64 q.nons, .slice R' rn' rc', .slice O' on' oc', .slice G' gn' gc', .slice T' tn' tc']] w fun e w' => e = .returned (.bool true) ∧ Below w.heap.size w w' := by
  have b1 : Hid (Below w.heap.size w ((w.alloc (.cells #[.int .i64 p.terms, .int .i64 p.nons, .slice R rn rc, .slice O on oc, .slice G gn gc, .slice T tn tc] 33)).alloc (.cells #[.int .i64 q.terms, .int .i64 q.nons, .slice R' rn' rc', .slice O' on' oc', .slice G' gn' gc', .slice T' tn' tc'] 33))) := ((Below.refl _ _).alloc (Nat.le_refl _) _).alloc (by simp) _
  have R1 : Hid (Row ((w.alloc (.cells #[.int .i64 p.terms, .int .i64 p.nons, .slice R rn rc, .slice O on oc, .slice G gn gc, .slice T tn tc] 33)).alloc (.cells #[.int .i64 q.terms, .int .i64 q.nons, .slice R' rn' rc', .slice O' on' oc', .slice G' gn' gc', .slice T' tn' tc'] 33)) w.heap.size 33 #[.int .i64 p.terms, .int .i64 p.nons, .slice R rn rc, .slice O on oc, .slice G gn gc, .slice T tn tc]) := (Row.new _ _ _).alloc _
  have S1 : Hid (Row ((w.alloc (.cells #[.int .i64 p.terms, .int .i64 p.nons, .slice R rn rc, .slice O on oc, .slice G gn gc, .slice T tn tc] 33)).alloc (.cells #[.int .i64 q.terms, .int .i64 q.nons, .slice R' rn' rc', .slice O' on' oc', .slice G' gn' gc', .slice T' tn' tc'] 33)) (w.heap.size + 1) 33 #[.int .i64 q.terms, .int .i64 q.nons, .slice R' rn' rc', .slice O' on' oc', .slice G' gn' gc', .slice T' tn' tc']) := by
    have := Row.new (w.alloc (.cells #[.int .i64 p.terms, .int .i64 p.nons, .slice R rn rc, .slice O on oc, .slice G gn gc, .slice T tn tc] 33)) 33 #[.int .i64 q.terms, .int .i64 q.nons, .slice R' rn' rc', .slice O' on' oc', .slice G' gn' gc', .slice T' tn' tc']
    show Row _ _ _ _
    simpa using this
  have HP := hide (hp.below b1.out)
  have HQ := hide (hq.below b1.out)
  have er : Hid (p.rows.length = rn) := hp.rows.1
  have eo : Hid (p.of.length = on) := hp.of.1
  have eg : Hid (p.gotos.length = gn) := hp.gotos.1
  have et : Hid (p.to.length = tn) := hp.to.1
  have er' : Hid (q.rows.length = rn') := hq.rows.1
  have eo' : Hid (q.of.length = on') := hq.of.1
  have eg' : Hid (q.gotos.length = gn') := hq.gotos.1
  have et' : Hid (q.to.length = tn') := hq.to.1
  clear hp hq
  go_enter Try.func4, Try.ntmps4
  go_wp2_with fail
  generalize ((w.alloc (.cells #[.int .i64 p.terms, .int .i64 p.nons, .slice R rn rc, .slice O on oc, .slice G gn gc, .slice T tn tc] 33)).alloc (.cells #[.int .i64 q.terms, .int .i64 q.nons, .slice R' rn' rc', .slice O' on' oc', .slice G' gn' gc', .slice T' tn' tc'] 33)) = w1 at *
  refine (alive18 w1).mono ?_
  rintro e w2 ⟨rfl, hb2⟩
  have b2 := hide (below_both b1.out hb2 b1.out.size)
  have R2 := hide (R1.out.below hb2 R1.out.lt)
  have S2 := hide (S1.out.below hb2 S1.out.lt)
  have HP2 := hide (HP.out.below hb2)
  have HQ2 := hide (HQ.out.below hb2)
  clear R1 S1 HP HQ b1 hb2
  have x0 := (R2.out.cell 0).trans (show _ = some (.int .i64 p.terms) from rfl)
  have x1 := (R2.out.cell 1).trans (show _ = some (.int .i64 p.nons) from rfl)
  have x2 := (R2.out.cell 2).trans (show _ = some (.slice R rn rc) from rfl)
  have x3 := (R2.out.cell 3).trans (show _ = some (.slice O on oc) from rfl)
  have x4 := (R2.out.cell 4).trans (show _ = some (.slice G gn gc) from rfl)
  have x5 := (R2.out.cell 5).trans (show _ = some (.slice T tn tc) from rfl)
  have C1 := great18_any R O G T rn on gn tn rc oc gc tc p w2 HP2.out h1 h2 h3 h4
  go_wp2_with fail
  clear x0 x1 x2 x3 x4 x5
  cases hg : greatP p with
  | true =>
    rw [hg] at C1
    refine C1.mono ?_
    rintro e w3 ⟨rfl, hb3⟩
    have b3 := hide (below_both b2.out hb3 b2.out.size)
    clear C1 hb3 hg
    go_wp2_with fail
    go_ret
    exact ⟨rfl, b3.out⟩
  | false =>
  rw [hg] at C1
  obtain ⟨g1, g2, g3, g4⟩ := great_parts hg
  have l1 : rn ≤ 1000000 := by have := er.out; omega
  have l2 : on ≤ 1000000 := by have := eo.out; omega
  have l3 : gn ≤ 1000000 := by have := eg.out; omega
  have l4 : tn ≤ 1000000 := by have := et.out; omega
  clear hg g1 g2 g3 g4
  refine C1.mono ?_
  rintro e w3 ⟨rfl, hb3⟩
  have b3 := hide (below_both b2.out hb3 b2.out.size)
  have R3 := hide (R2.out.below hb3 R2.out.lt)
  have S3 := hide (S2.out.below hb3 S2.out.lt)
  have HP3 := hide (HP2.out.below hb3)
  have HQ3 := hide (HQ2.out.below hb3)
  clear C1 hb3 R2 S2 HP2 HQ2 b2
  have x0 := (S3.out.cell 0).trans (show _ = some (.int .i64 q.terms) from rfl)
  have x1 := (S3.out.cell 1).trans (show _ = some (.int .i64 q.nons) from rfl)
  have x2 := (S3.out.cell 2).trans (show _ = some (.slice R' rn' rc') from rfl)
  have x3 := (S3.out.cell 3).trans (show _ = some (.slice O' on' oc') from rfl)
  have x4 := (S3.out.cell 4).trans (show _ = some (.slice G' gn' gc') from rfl)
  have x5 := (S3.out.cell 5).trans (show _ = some (.slice T' tn' tc') from rfl)
  have C1 := great18_any R' O' G' T' rn' on' gn' tn' rc' oc' gc' tc' q w3 HQ3.out h5 h6 h7 h8
  go_wp2_with fail
  clear x0 x1 x2 x3 x4 x5
  cases hg : greatP q with
  | true =>
    rw [hg] at C1
    refine C1.mono ?_
    rintro e w4 ⟨rfl, hb4⟩
    have b4 := hide (below_both b3.out hb4 b3.out.size)
    clear C1 hb4 hg
    go_wp2_with fail
    go_ret
    exact ⟨rfl, b4.out⟩
  | false =>
  rw [hg] at C1
  obtain ⟨g1, g2, g3, g4⟩ := great_parts hg
  have l5 : rn' ≤ 1000000 := by have := er'.out; omega
  have l6 : on' ≤ 1000000 := by have := eo'.out; omega
  have l7 : gn' ≤ 1000000 := by have := eg'.out; omega
  have l8 : tn' ≤ 1000000 := by have := et'.out; omega
  clear hg g1 g2 g3 g4
  refine C1.mono ?_
  rintro e w4 ⟨rfl, hb4⟩
  have b4 := hide (below_both b3.out hb4 b3.out.size)
  have R4 := hide (R3.out.below hb4 R3.out.lt)
  have S4 := hide (S3.out.below hb4 S3.out.lt)
  have HP4 := hide (HP3.out.below hb4)
  have HQ4 := hide (HQ3.out.below hb4)
  clear C1 hb4 R3 S3 HP3 HQ3 b3
  have x0 := (R4.out.cell 0).trans (show _ = some (.int .i64 p.terms) from rfl)
  have x1 := (R4.out.cell 1).trans (show _ = some (.int .i64 p.nons) from rfl)
  have x2 := (R4.out.cell 2).trans (show _ = some (.slice R rn rc) from rfl)
  have x3 := (R4.out.cell 3).trans (show _ = some (.slice O on oc) from rfl)
  have x4 := (R4.out.cell 4).trans (show _ = some (.slice G gn gc) from rfl)
  have x5 := (R4.out.cell 5).trans (show _ = some (.slice T tn tc) from rfl)
  obtain ⟨tb, er0, hd⟩ : ∃ tb er0, unpackE p = (tb, er0) := ⟨_, _, rfl⟩
  have hln := unpack_lens p
  rw [hd] at hln
  have hla : tb.acts.length ≤ 1000000 := by have h1 := eo.out; have h2 := hln.1; simp only at h2; omega
  have hlb : tb.gots.length ≤ 1000000 := by have h1 := et.out; have h2 := hln.2; simp only at h2; omega
  have hd := hide hd
  clear hln
  have C2 := unpack_any R O G T rn on gn tn rc oc gc tc p w4 HP4.out l2 l4 l1 l3
  unfold UnPost at C2
  rw [hd.out] at C2
  dsimp only at C2
  go_wp2_with fail
  clear x0 x1 x2 x3 x4 x5
  refine C2.mono ?_
  rintro e w5 ⟨A5, c5, B5, d5, rfl, hN5, hM5, hb5⟩
  have hb6 : Below w4.heap.size w4 (w5.alloc (.cells #[.slice A5 tb.acts.length c5, .slice B5 tb.gots.length d5] 25)) := hb5.alloc hb5.size _
  have b6 := hide (below_both b4.out hb6 b4.out.size)
  have R6 := hide (R4.out.below hb6 R4.out.lt)
  have S6 := hide (S4.out.below hb6 S4.out.lt)
  have HP6 := hide (HP4.out.below hb6)
  have HQ6 := hide (HQ4.out.below hb6)
  have HT6 : Hid (TabAt (w5.alloc (.cells #[.slice A5 tb.acts.length c5, .slice B5 tb.gots.length d5] 25)) A5 B5 tb.acts.length tb.gots.length tb) := TabAt.below (w := w5) ⟨hN5.nest, hM5.nest⟩ (below_alloc _ _)
  have D6 : Hid (Row (w5.alloc (.cells #[.slice A5 tb.acts.length c5, .slice B5 tb.gots.length d5] 25)) w5.heap.size 25 #[.slice A5 tb.acts.length c5, .slice B5 tb.gots.length d5]) := Row.new _ _ _
  clear C2 hb5 hb6 hN5 hM5 R4 S4 HP4 HQ4 b4
  have x0 := (R6.out.cell 0).trans (show _ = some (.int .i64 p.terms) from rfl)
  have x1 := (R6.out.cell 1).trans (show _ = some (.int .i64 p.nons) from rfl)
  have x2 := (R6.out.cell 2).trans (show _ = some (.slice R rn rc) from rfl)
  have x3 := (R6.out.cell 3).trans (show _ = some (.slice O on oc) from rfl)
  have x4 := (R6.out.cell 4).trans (show _ = some (.slice G gn gc) from rfl)
  have x5 := (R6.out.cell 5).trans (show _ = some (.slice T tn tc) from rfl)
  have C3 := runpack_any R O G T rn on gn tn rc oc gc tc p (w5.alloc (.cells #[.slice A5 tb.acts.length c5, .slice B5 tb.gots.length d5] 25)) HP6.out l2 l4 l1 l3
  unfold UnPost at C3
  rw [hd.out] at C3
  dsimp only at C3
  go_wp2_with fail
  clear x0 x1 x2 x3 x4 x5
  generalize w5.alloc (.cells #[.slice A5 tb.acts.length c5, .slice B5 tb.gots.length d5] 25) = w6 at *
  generalize w5.heap.size = p5 at *
  refine C3.mono ?_
  rintro e w7 ⟨A7, c7, B7, d7, rfl, hN7, hM7, hb7⟩
  have hb8 : Below w6.heap.size w6 (w7.alloc (.cells #[.slice A7 tb.acts.length c7, .slice B7 tb.gots.length d7] 25)) := hb7.alloc hb7.size _
  have b8 := hide (below_both b6.out hb8 b6.out.size)
  have R8 := hide (R6.out.below hb8 R6.out.lt)
  have S8 := hide (S6.out.below hb8 S6.out.lt)
  have HP8 := hide (HP6.out.below hb8)
  have HQ8 := hide (HQ6.out.below hb8)
  have HT8 := hide (HT6.out.below hb8)
  have D8 := hide (D6.out.below hb8 D6.out.lt)
  have HU8 : Hid (TabAt (w7.alloc (.cells #[.slice A7 tb.acts.length c7, .slice B7 tb.gots.length d7] 25)) A7 B7 tb.acts.length tb.gots.length tb) := TabAt.below (w := w7) ⟨hN7.nest, hM7.nest⟩ (below_alloc _ _)
  have E8 : Hid (Row (w7.alloc (.cells #[.slice A7 tb.acts.length c7, .slice B7 tb.gots.length d7] 25)) w7.heap.size 25 #[.slice A7 tb.acts.length c7, .slice B7 tb.gots.length d7]) := Row.new _ _ _
  clear C3 hb7 hb8 hN7 hM7 R6 S6 HP6 HQ6 HT6 D6 b6 hd
  go_wp2_with fail
  generalize w7.alloc (.cells #[.slice A7 tb.acts.length c7, .slice B7 tb.gots.length d7] 25) = w8 at *
  generalize w7.heap.size = p7 at *
  have X0 : ∀ W, Ext w8 W → W.cell? ⟨p5, 0, none⟩ = some (.slice A5 tb.acts.length c5) := fun W hW => (hW.cell D8.out.lt).trans ((D8.out.cell 0).trans rfl)
  have X1 : ∀ W, Ext w8 W → W.cell? ⟨p5, 1, none⟩ = some (.slice B5 tb.gots.length d5) := fun W hW => (hW.cell D8.out.lt).trans ((D8.out.cell 1).trans rfl)
  have Y0 : ∀ W, Ext w8 W → W.cell? ⟨p7, 0, none⟩ = some (.slice A7 tb.acts.length c7) := fun W hW => (hW.cell E8.out.lt).trans ((E8.out.cell 0).trans rfl)
  have Y1 : ∀ W, Ext w8 W → W.cell? ⟨p7, 1, none⟩ = some (.slice B7 tb.gots.length d7) := fun W hW => (hW.cell E8.out.lt).trans ((E8.out.cell 1).trans rfl)
  have hee : (er0 == er0) = true := by simp
  have hrr : (rightP p == rightP p) = true := by simp
  have hss : (decide (p = q) == decide (p = q)) = true := by simp
  refine wp_region_seq [(0, false), (1, false), (2, true), (3, false), (4, false), (5, false), (6, false), (7, false), (8, false), (9, false), (11, false), (10, true), (12, true), (13, false), (14, false), (15, false), (16, false), (17, false), (19, false), (20, false), (18, true), (21, true), (22, false), (23, false), (24, false)]
    (by kernel_rfl) (by kernel_rfl) (by kernel_rfl) rfl (by kernel_rfl) (fun _ _ d _ _ h => by cases d <;> exact h) ?_
  simp only [List.map_cons, List.map_nil, List.getElem?_cons_succ, List.getElem?_cons_zero, Option.getD_some]
  iterate 2 (refine wpSeq_take rfl rfl (fun W hW => (by have eX0 := X0 W hW; have eX1 := X1 W hW; have eY0 := Y0 W hW; have eY1 := Y1 W hW; go_simp; with_reducible rfl)) ?_; simp only [List.setIfInBounds_toArray, List.set_cons_zero, List.set_cons_succ])
  clear X0 X1 Y0 Y1
  have CS := same17_any A5 B5 A7 B7 tb.acts.length tb.gots.length c5 d5 tb.acts.length tb.gots.length c7 d7 tb tb w8.drew (HT8.out.below (Ext.drew w8)) (HU8.out.below (Ext.drew w8)) hla hlb hla hlb
  rw [decide_eq_true (show tb = tb from rfl)] at CS
  refine wpSeq_alone rfl (fun K hK => ?_)
  go_wp2_with fail
  refine (CS).mono ?_
  rintro e w9 ⟨rfl, hb9⟩
  have b9 := below_both (Ext.drew w8) hb9 (Nat.le_refl _)
  refine hK _ _ w9 b9 (Ext.refl _) ?_
  clear hK K
  clear CS hb9
  have R9 := hide (R8.out.below b9 R8.out.lt)
  have S9 := hide (S8.out.below b9 S8.out.lt)
  have HP9 := hide (HP8.out.below b9)
  have HQ9 := hide (HQ8.out.below b9)
  have b9 := hide (below_both b8.out b9 b8.out.size)
  clear R8 S8 HP8 HQ8 b8 HT8 HU8 D8 E8
  have X0 : ∀ W, Ext w9 W → W.cell? ⟨w.heap.size, 0, none⟩ = some (.int .i64 p.terms) := fun W hW => (hW.cell R9.out.lt).trans ((R9.out.cell 0).trans rfl)
  have X1 : ∀ W, Ext w9 W → W.cell? ⟨w.heap.size, 1, none⟩ = some (.int .i64 p.nons) := fun W hW => (hW.cell R9.out.lt).trans ((R9.out.cell 1).trans rfl)
  have X2 : ∀ W, Ext w9 W → W.cell? ⟨w.heap.size, 2, none⟩ = some (.slice R rn rc) := fun W hW => (hW.cell R9.out.lt).trans ((R9.out.cell 2).trans rfl)
  have X3 : ∀ W, Ext w9 W → W.cell? ⟨w.heap.size, 3, none⟩ = some (.slice O on oc) := fun W hW => (hW.cell R9.out.lt).trans ((R9.out.cell 3).trans rfl)
  have X4 : ∀ W, Ext w9 W → W.cell? ⟨w.heap.size, 4, none⟩ = some (.slice G gn gc) := fun W hW => (hW.cell R9.out.lt).trans ((R9.out.cell 4).trans rfl)
  have X5 : ∀ W, Ext w9 W → W.cell? ⟨w.heap.size, 5, none⟩ = some (.slice T tn tc) := fun W hW => (hW.cell R9.out.lt).trans ((R9.out.cell 5).trans rfl)
  iterate 8 (refine wpSeq_take rfl rfl (fun W hW => (by have eX0 := X0 W hW; have eX1 := X1 W hW; have eX2 := X2 W hW; have eX3 := X3 W hW; have eX4 := X4 W hW; have eX5 := X5 W hW; go_simp; with_reducible rfl)) ?_; simp only [List.setIfInBounds_toArray, List.set_cons_zero, List.set_cons_succ])
  refine wpSeq_alone rfl (fun K hK => ?_)
  go_wp2_with fail
  refine (right_any R O G T rn on gn tn rc oc gc tc p w9 HP9.out l2 l4 l1 l3).mono ?_
  rintro e w10 ⟨rfl, hb10⟩
  refine hK _ _ w10 hb10 (Ext.refl _) ?_
  clear hK K
  clear X0 X1 X2 X3 X4 X5
  refine wpSeq_alone rfl (fun K hK => ?_)
  go_wp2_with fail
  refine (rright_any R O G T rn on gn tn rc oc gc tc p w10 (HP9.out.below hb10) l2 l4 l1 l3).mono ?_
  rintro e w11 ⟨rfl, hb11⟩
  have b11 := below_both hb10 hb11 hb10.size
  refine hK _ _ w11 hb11 (Ext.refl _) ?_
  clear hK K
  clear hb10 hb11
  have R11 := hide (R9.out.below b11 R9.out.lt)
  have S11 := hide (S9.out.below b11 S9.out.lt)
  have HP11 := hide (HP9.out.below b11)
  have HQ11 := hide (HQ9.out.below b11)
  have b11 := hide (below_both b9.out b11 b9.out.size)
  clear R9 S9 HP9 HQ9 b9
  have X0 : ∀ W, Ext w11 W → W.cell? ⟨w.heap.size, 0, none⟩ = some (.int .i64 p.terms) := fun W hW => (hW.cell R11.out.lt).trans ((R11.out.cell 0).trans rfl)
  have X1 : ∀ W, Ext w11 W → W.cell? ⟨w.heap.size, 1, none⟩ = some (.int .i64 p.nons) := fun W hW => (hW.cell R11.out.lt).trans ((R11.out.cell 1).trans rfl)
  have X2 : ∀ W, Ext w11 W → W.cell? ⟨w.heap.size, 2, none⟩ = some (.slice R rn rc) := fun W hW => (hW.cell R11.out.lt).trans ((R11.out.cell 2).trans rfl)
  have X3 : ∀ W, Ext w11 W → W.cell? ⟨w.heap.size, 3, none⟩ = some (.slice O on oc) := fun W hW => (hW.cell R11.out.lt).trans ((R11.out.cell 3).trans rfl)
  have X4 : ∀ W, Ext w11 W → W.cell? ⟨w.heap.size, 4, none⟩ = some (.slice G gn gc) := fun W hW => (hW.cell R11.out.lt).trans ((R11.out.cell 4).trans rfl)
  have X5 : ∀ W, Ext w11 W → W.cell? ⟨w.heap.size, 5, none⟩ = some (.slice T tn tc) := fun W hW => (hW.cell R11.out.lt).trans ((R11.out.cell 5).trans rfl)
  have Y0 : ∀ W, Ext w11 W → W.cell? ⟨w.heap.size + 1, 0, none⟩ = some (.int .i64 q.terms) := fun W hW => (hW.cell S11.out.lt).trans ((S11.out.cell 0).trans rfl)
  have Y1 : ∀ W, Ext w11 W → W.cell? ⟨w.heap.size + 1, 1, none⟩ = some (.int .i64 q.nons) := fun W hW => (hW.cell S11.out.lt).trans ((S11.out.cell 1).trans rfl)
  have Y2 : ∀ W, Ext w11 W → W.cell? ⟨w.heap.size + 1, 2, none⟩ = some (.slice R' rn' rc') := fun W hW => (hW.cell S11.out.lt).trans ((S11.out.cell 2).trans rfl)
  have Y3 : ∀ W, Ext w11 W → W.cell? ⟨w.heap.size + 1, 3, none⟩ = some (.slice O' on' oc') := fun W hW => (hW.cell S11.out.lt).trans ((S11.out.cell 3).trans rfl)
  have Y4 : ∀ W, Ext w11 W → W.cell? ⟨w.heap.size + 1, 4, none⟩ = some (.slice G' gn' gc') := fun W hW => (hW.cell S11.out.lt).trans ((S11.out.cell 4).trans rfl)
  have Y5 : ∀ W, Ext w11 W → W.cell? ⟨w.heap.size + 1, 5, none⟩ = some (.slice T' tn' tc') := fun W hW => (hW.cell S11.out.lt).trans ((S11.out.cell 5).trans rfl)
  iterate 7 (refine wpSeq_take rfl rfl (fun W hW => (by have eX0 := X0 W hW; have eX1 := X1 W hW; have eX2 := X2 W hW; have eX3 := X3 W hW; have eX4 := X4 W hW; have eX5 := X5 W hW; have eY0 := Y0 W hW; have eY1 := Y1 W hW; have eY2 := Y2 W hW; have eY3 := Y3 W hW; have eY4 := Y4 W hW; have eY5 := Y5 W hW; go_simp; with_reducible rfl)) ?_; simp only [List.setIfInBounds_toArray, List.set_cons_zero, List.set_cons_succ])
  clear X0 X1 X2 X3 X4 X5 Y0 Y1 Y2 Y3 Y4 Y5
  have CA := same_any R O G T R' O' G' T' rn on gn tn rc oc gc tc rn' on' gn' tn' rc' oc' gc' tc' p q w11 HP11.out HQ11.out l1 l2 l3 l4 l5 l6 l7 l8
  rw [sameP_eq] at CA
  refine wpSeq_alone rfl (fun K hK => ?_)
  go_wp2_with fail
  refine (CA).mono ?_
  rintro e w12 ⟨rfl, hb12⟩
  refine hK _ _ w12 hb12 (Ext.refl _) ?_
  clear hK K
  refine wpSeq_alone rfl (fun K hK => ?_)
  go_wp2_with fail
  refine (same18_any R O G T R' O' G' T' rn on gn tn rc oc gc tc rn' on' gn' tn' rc' oc' gc' tc' p q w12 (HP11.out.below hb12) (HQ11.out.below hb12) l1 l2 l3 l4 l5 l6 l7 l8).mono ?_
  rintro e w13 ⟨rfl, hb13⟩
  have b13 := hide (below_both (below_both b11.out hb12 b11.out.size) hb13 (Nat.le_trans b11.out.size hb12.size))
  refine hK _ _ w13 hb13 (Ext.refl _) ?_
  clear hK K
  clear CA hb12 hb13
  iterate 3 (refine wpSeq_take rfl rfl (fun W hW => (by go_simp; with_reducible rfl)) ?_; simp only [List.setIfInBounds_toArray, List.set_cons_zero, List.set_cons_succ])
  refine wpSeq_nil ?_
  go_wp2_with fail
  go_ret
  exact ⟨rfl, b13.out⟩
end Go.Proofs.Ytfldbkioepcghaa
