/- The walk of CorpusEncodes. -/
import Derived.Test.YtbfefjlilmoigaaF2
import Derived.Test.YtbfefjlilmoigaaE6
namespace Go.Proofs.Ytbfefjlilmoigaa
open Go.RowKit
set_option linter.unusedVariables false

set_option maxHeartbeats 2000000 in
set_option maxRecDepth 100000 in
theorem law_encodes29 (g h : Nat) (A B : Option Addr) (n m c d : Nat) (l k : List Cas) (w : World) (hl : Cases w A n l) (hk : Cases w B m k) (hok : ∀ x ∈ l, x.ok) (hok2 : ∀ x ∈ k, x.ok) (hg : g < 4294967296) :
    Calls Try.prog 13 #[.agg #[.int .u32 (g : Int), .slice A n c], .agg #[.int .u32 (h : Int), .slice B m d]] w fun e w' => e = .returned (.bool true) ∧ Below w.heap.size w w' := by
  have HK := hide hok
  have HK2 := hide hok2
  have B1 : Hid (Below w.heap.size w ((w.alloc (.cells #[.int .u32 (g : Int), .slice A n c] 37)).alloc (.cells #[.int .u32 (h : Int), .slice B m d] 37))) := ((Below.refl _ _).alloc (Nat.le_refl _) _).alloc (by simp) _
  have HL := hide (hl.below B1.out)
  have HD := hide (hk.below B1.out)
  have R1 : Hid (Row ((w.alloc (.cells #[.int .u32 (g : Int), .slice A n c] 37)).alloc (.cells #[.int .u32 (h : Int), .slice B m d] 37)) w.heap.size 37 #[.int .u32 (g : Int), .slice A n c]) := (Row.new _ _ _).alloc _
  have S1 : Hid (Row ((w.alloc (.cells #[.int .u32 (g : Int), .slice A n c] 37)).alloc (.cells #[.int .u32 (h : Int), .slice B m d] 37)) (w.heap.size + 1) 37 #[.int .u32 (h : Int), .slice B m d]) := by
    have := Row.new (w.alloc (.cells #[.int .u32 (g : Int), .slice A n c] 37)) 37 #[.int .u32 (h : Int), .slice B m d]
    show Row _ _ _ _
    simpa using this
  clear hl hk hok hok2
  go_enter Try.func13, Try.ntmps13
  go_wp2_with fail
  generalize (w.alloc (.cells #[.int .u32 (g : Int), .slice A n c] 37)).alloc (.cells #[.int .u32 (h : Int), .slice B m d] 37) = w1 at *
  refine (alive29 _).mono ?_
  rintro e w2 ⟨rfl, hbel2⟩
  have HL := hide (HL.out.below hbel2)
  have HD := hide (HD.out.below hbel2)
  have R2 := hide (R1.out.below hbel2 R1.out.lt)
  have S2 := hide (S1.out.below hbel2 S1.out.lt)
  have B2 := hide (below_both B1.out hbel2 B1.out.size)
  clear hbel2 R1 S1 B1
  have x0 := (R2.out.cell 0).trans (show _ = some (.int .u32 (g : Int)) from rfl)
  have x1 := (R2.out.cell 1).trans (show _ = some (.slice A n c) from rfl)
  go_wp2_with fail
  clear x0 x1
  have CG := great_any g A n c l w2 HL.out HK.out
  cases hgr : greatC l with
  | true =>
    rw [hgr] at CG
    refine CG.mono ?_
    rintro e w3 ⟨rfl, hbel3⟩
    have B3 := hide (below_both B2.out hbel3 B2.out.size)
    clear CG hbel3 hgr
    go_wp2_with fail
    go_ret
    exact ⟨rfl, B3.out⟩
  | false =>
    rw [hgr] at CG
    refine CG.mono ?_
    rintro e w3 ⟨rfl, hbel3⟩
    have HL := hide (HL.out.below hbel3)
    have HD := hide (HD.out.below hbel3)
    have R3 := hide (R2.out.below hbel3 R2.out.lt)
    have S3 := hide (S2.out.below hbel3 S2.out.lt)
    have B3 := hide (below_both B2.out hbel3 B2.out.size)
    clear CG hbel3 R2 S2 B2
    have y0 := (S3.out.cell 0).trans (show _ = some (.int .u32 (h : Int)) from rfl)
    have y1 := (S3.out.cell 1).trans (show _ = some (.slice B m d) from rfl)
    have CH := great_any h B m d k w3 HD.out HK2.out
    have hgr' := hide hgr
    clear hgr
    go_wp2_with fail
    clear y0 y1
    cases hgk : greatC k with
    | true =>
      rw [hgk] at CH
      refine CH.mono ?_
      rintro e w4 ⟨rfl, hbel4⟩
      have B4 := hide (below_both B3.out hbel4 B3.out.size)
      clear CH hbel4 hgk
      go_wp2_with fail
      go_ret
      exact ⟨rfl, B4.out⟩
    | false =>
      obtain ⟨n21, hw8⟩ := great_not hgr'.out
      have hnk := (great_not hgk).1
      have hmk := HD.out.1
      have hnl := HL.out.1
      have hm21 : m ≤ 2100 := by omega
      have hn21 : n ≤ 2100 := by omega
      rw [hgk] at CH
      refine CH.mono ?_
      rintro e w4 ⟨rfl, hbel4⟩
      have HL := hide (HL.out.below hbel4)
      have HD := hide (HD.out.below hbel4)
      have R4 := hide (R3.out.below hbel4 R3.out.lt)
      have S4 := hide (S3.out.below hbel4 S3.out.lt)
      have B4 := hide (below_both B3.out hbel4 B3.out.size)
      have HW8 := hide hw8
      clear CH hbel4 hgk R3 S3 B3 hw8 hnk hmk hnl n21 hgr'
      have x0 := (R4.out.cell 0).trans (show _ = some (.int .u32 (g : Int)) from rfl)
      have x1 := (R4.out.cell 1).trans (show _ = some (.slice A n c) from rfl)
      go_wp2_with fail
      clear x0 x1
      refine (copy_any g A n c l w4 HL.out HW8.out hn21).mono ?_
      rintro e w5 ⟨A5, c5, rfl, hoc5, hbel5⟩
      have hbel6 : Below w4.heap.size w4 (w5.alloc (.cells #[.int .u32 (g : Int), .slice A5 n c5] 37)) := hbel5.alloc hbel5.size _
      have HO := hide (hoc5.cases.below (below_alloc _ (.cells #[.int .u32 (g : Int), .slice A5 n c5] 37)))
      have T6 : Hid (Row (w5.alloc (.cells #[.int .u32 (g : Int), .slice A5 n c5] 37)) w5.heap.size 37 #[.int .u32 (g : Int), .slice A5 n c5]) := Row.new _ _ _
      have HL := hide (HL.out.below hbel6)
      have HD := hide (HD.out.below hbel6)
      have R6 := hide (R4.out.below hbel6 R4.out.lt)
      have S6 := hide (S4.out.below hbel6 S4.out.lt)
      have B6 := hide (below_both B4.out hbel6 B4.out.size)
      clear hbel5 hbel6 hoc5 R4 S4 B4 HW8
      go_wp2_with fail
      generalize w5.alloc (.cells #[.int .u32 (g : Int), .slice A5 n c5] 37) = w6 at *
      have hnl : l.length = n := HL.out.1
      have CE := enc_any g A5 n c5 l w6 (by have := HO.out; rw [hnl] at this; exact this) hg
      unfold EncPost at CE
      have CR : ∀ w, Cases w A n l → Calls Try.prog 41 #[.agg #[.int .u32 (g : Int), .slice A n c]] w (EncPost w (encB g l)) := fun w hw => renc_any g A n c l w hw hg
      unfold EncPost at CR
      obtain ⟨fb, er, hfe⟩ : ∃ fb er, encB g l = (fb, er) := ⟨_, _, rfl⟩
      rw [hfe] at CE CR
      dsimp only at CE CR
      clear hfe
      refine CE.mono ?_
      rintro e w7 ⟨v7, rfl, hown7, hbel7⟩
      obtain ⟨A7, L7, c7, hv7, hL7, hB7, hcc7⟩ := hown7.form2
      subst hv7
      have HO := hide (HO.out.below hbel7)
      have T7 := hide (T6.out.below hbel7 T6.out.lt)
      have HL := hide (HL.out.below hbel7)
      have HD := hide (HD.out.below hbel7)
      have R7 := hide (R6.out.below hbel7 R6.out.lt)
      have S7 := hide (S6.out.below hbel7 S6.out.lt)
      have B7 := hide (below_both B6.out hbel7 B6.out.size)
      clear CE hbel7 T6 R6 S6 B6 hown7
      have x0 := (R7.out.cell 0).trans (show _ = some (.int .u32 (g : Int)) from rfl)
      have x1 := (R7.out.cell 1).trans (show _ = some (.slice A n c) from rfl)
      have CR := CR w7 HL.out
      go_wp2_with fail
      clear x0 x1
      refine CR.mono ?_
      rintro e w8 ⟨v8, rfl, hown8, hbel8⟩
      obtain ⟨A8, L8, c8, hv8, hL8, hB8, hcc8⟩ := hown8.form2
      subst hv8
      have HB7 := hide (hB7.below hbel8)
      have HO := hide (HO.out.below hbel8)
      have T8 := hide (T7.out.below hbel8 T7.out.lt)
      have HL := hide (HL.out.below hbel8)
      have HD := hide (HD.out.below hbel8)
      have R8 := hide (R7.out.below hbel8 R7.out.lt)
      have S8 := hide (S7.out.below hbel8 S7.out.lt)
      have B8 := hide (below_both B7.out hbel8 B7.out.size)
      have HB8 := hide hB8
      clear CR hbel8 T7 R7 S7 B7 hown8 hB7 hB8 hL7 hL8 hcc7 hcc8
      go_wp2_with fail
      have F7 : ∀ W, Ext w8 W → Sem.run Try.prog (Go.convert 22 9 (.slice A7 L7 c7)) W = .ok (.string ⟨fb.toArray⟩) W := fun W hW => (HB7.out.below hW).convert c7
      have F8 : ∀ W, Ext w8 W → Sem.run Try.prog (Go.convert 22 9 (.slice A8 L8 c8)) W = .ok (.string ⟨fb.toArray⟩) W := fun W hW => (HB8.out.below hW).convert c8
      have X0 : ∀ W, Ext w8 W → W.cell? ⟨w.heap.size, 0, none⟩ = some (.int .u32 (g : Int)) := fun W hW => (hW.cell R8.out.lt).trans ((R8.out.cell 0).trans rfl)
      have X1 : ∀ W, Ext w8 W → W.cell? ⟨w.heap.size, 1, none⟩ = some (.slice A n c) := fun W hW => (hW.cell R8.out.lt).trans ((R8.out.cell 1).trans rfl)
      have Y0 : ∀ W, Ext w8 W → W.cell? ⟨w.heap.size + 1, 0, none⟩ = some (.int .u32 (h : Int)) := fun W hW => (hW.cell S8.out.lt).trans ((S8.out.cell 0).trans rfl)
      have Y1 : ∀ W, Ext w8 W → W.cell? ⟨w.heap.size + 1, 1, none⟩ = some (.slice B m d) := fun W hW => (hW.cell S8.out.lt).trans ((S8.out.cell 1).trans rfl)
      have Z0 : ∀ W, Ext w8 W → W.cell? ⟨w5.heap.size, 0, none⟩ = some (.int .u32 (g : Int)) := fun W hW => (hW.cell T8.out.lt).trans ((T8.out.cell 0).trans rfl)
      have Z1 : ∀ W, Ext w8 W → W.cell? ⟨w5.heap.size, 1, none⟩ = some (.slice A5 n c5) := fun W hW => (hW.cell T8.out.lt).trans ((T8.out.cell 1).trans rfl)
      clear R8 S8 T8 HB7 HB8
      generalize w5.heap.size = s5 at *
      refine wp_region_seq [(0, false), (1, false), (2, false), (3, false), (4, false), (5, false), (6, false), (7, false), (8, false), (9, false), (10, false), (11, false), (13, false), (12, true), (14, true), (15, false), (16, false), (17, false), (18, false), (19, false), (21, false), (22, false), (20, true), (23, true), (24, false), (25, false), (26, false), (27, false), (28, false), (29, true), (30, false), (31, false)]
        (by kernel_rfl) (by kernel_rfl) (by kernel_rfl) rfl (by kernel_rfl) (fun _ _ d _ _ h => by cases d <;> exact h) ?_
      simp only [List.map_cons, List.map_nil, List.getElem?_cons_succ, List.getElem?_cons_zero, Option.getD_some]
      iterate 11 (refine wpSeq_take rfl rfl (fun W hW => (by have f7 := F7 W hW; have f8 := F8 W hW; go_simp; with_reducible rfl)) ?_; simp only [List.setIfInBounds_toArray, List.set_cons_zero, List.set_cons_succ])
      iterate 2 (refine wpSeq_take rfl rfl (fun W hW => (by have q0 := X0 W (hW); have q1 := X1 W (hW); have q2 := Y0 W (hW); have q3 := Y1 W (hW); have q4 := Z0 W (hW); have q5 := Z1 W (hW); go_simp; with_reducible rfl)) ?_; simp only [List.setIfInBounds_toArray, List.set_cons_zero, List.set_cons_succ])
      refine wpSeq_alone rfl (fun K hK => ?_)
      go_wp2_with fail
      have CC := right_any g A n c l _ (HL.out.below (Ext.drew w8))
      refine CC.mono ?_
      rintro e w9 ⟨rfl, hbel9⟩
      have hx9 : Ext w8 w9 := below_both (Ext.drew w8) hbel9 (Nat.le_refl _)
      refine hK _ _ w9 hx9 (Ext.refl _) ?_
      clear hK K CC
      have HL := hide (HL.out.below hx9)
      have HD := hide (HD.out.below hx9)
      have HO := hide (HO.out.below hx9)
      have B9 := hide (below_both B8.out hx9 B8.out.size)
      clear hbel9
      refine wpSeq_alone rfl (fun K hK => ?_)
      go_wp2_with fail
      have CC := rright_any g A n c l w9 HL.out
      refine CC.mono ?_
      rintro e w10 ⟨rfl, hbel10⟩
      have hx10 : Ext w8 w10 := Ext.trans hx9 hbel10
      refine hK _ _ w10 hbel10 (Ext.refl _) ?_
      clear hK K CC
      have HL := hide (HL.out.below hbel10)
      have HD := hide (HD.out.below hbel10)
      have HO := hide (HO.out.below hbel10)
      have B10 := hide (below_both B9.out hbel10 B9.out.size)
      clear hbel10
      iterate 7 (refine wpSeq_take rfl rfl (fun W hW => (by have q0 := X0 W (hx10.trans hW); have q1 := X1 W (hx10.trans hW); have q2 := Y0 W (hx10.trans hW); have q3 := Y1 W (hx10.trans hW); have q4 := Z0 W (hx10.trans hW); have q5 := Z1 W (hx10.trans hW); go_simp; with_reducible rfl)) ?_; simp only [List.setIfInBounds_toArray, List.set_cons_zero, List.set_cons_succ])
      refine wpSeq_alone rfl (fun K hK => ?_)
      go_wp2_with fail
      have CC := same_any g h A B n m c d l k w10 HL.out HD.out (by omega) (by omega)
      refine CC.mono ?_
      rintro e w11 ⟨rfl, hbel11⟩
      have hx11 : Ext w8 w11 := Ext.trans hx10 hbel11
      refine hK _ _ w11 hbel11 (Ext.refl _) ?_
      clear hK K CC
      have HL := hide (HL.out.below hbel11)
      have HD := hide (HD.out.below hbel11)
      have HO := hide (HO.out.below hbel11)
      have B11 := hide (below_both B10.out hbel11 B10.out.size)
      clear hbel11
      refine wpSeq_alone rfl (fun K hK => ?_)
      go_wp2_with fail
      have CC := rsame_any g h A B n m c d l k w11 HL.out HD.out (by omega) (by omega)
      refine CC.mono ?_
      rintro e w12 ⟨rfl, hbel12⟩
      have hx12 : Ext w8 w12 := Ext.trans hx11 hbel12
      refine hK _ _ w12 hbel12 (Ext.refl _) ?_
      clear hK K CC
      have HL := hide (HL.out.below hbel12)
      have HO := hide (HO.out.below hbel12)
      have B12 := hide (below_both B11.out hbel12 B11.out.size)
      clear hbel12
      iterate 5 (refine wpSeq_take rfl rfl (fun W hW => (by have q0 := X0 W (hx12.trans hW); have q1 := X1 W (hx12.trans hW); have q2 := Y0 W (hx12.trans hW); have q3 := Y1 W (hx12.trans hW); have q4 := Z0 W (hx12.trans hW); have q5 := Z1 W (hx12.trans hW); go_simp; with_reducible rfl)) ?_; simp only [List.setIfInBounds_toArray, List.set_cons_zero, List.set_cons_succ])
      refine wpSeq_alone rfl (fun K hK => ?_)
      go_wp2_with fail
      have CC := rsame_any g g A5 A n n c5 c l l w12 (by have := HO.out; rw [hnl] at this; exact this) HL.out (by omega) (by omega)
      rw [show sameC g g l l = true by simp [sameC]] at CC
      refine CC.mono ?_
      rintro e w13 ⟨rfl, hbel13⟩
      have hx13 : Ext w8 w13 := Ext.trans hx12 hbel13
      refine hK _ _ w13 hbel13 (Ext.refl _) ?_
      clear hK K CC
      have B13 := hide (below_both B12.out hbel13 B12.out.size)
      clear hbel13
      iterate 2 (refine wpSeq_take rfl rfl (fun W hW => (by go_simp; with_reducible rfl)) ?_; simp only [List.setIfInBounds_toArray, List.set_cons_zero, List.set_cons_succ])
      refine wpSeq_nil ?_
      go_wp2_with fail
      go_ret
      exact ⟨rfl, B13.out⟩
end Go.Proofs.Ytbfefjlilmoigaa
