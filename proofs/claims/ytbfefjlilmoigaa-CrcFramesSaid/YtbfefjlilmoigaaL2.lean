/- The walk of CrcFrames. -/
import Derived.Test.YtbfefjlilmoigaaT8
import Derived.Test.YtbfefjlilmoigaaSeq
import Derived.Deep.DrawnRows
namespace Go.Proofs.Ytbfefjlilmoigaa
open Go.RowKit
set_option linter.unusedVariables false
attribute [local go_sem ↓] Go.wp_at_zero Go.wp_at_succ

theorem law_frames (A : Option Addr) (n c : Nat) (bs : List UInt8) (w : World) (hb : Bytes w A n bs) (hnc : n ≤ c) :
    Calls Try.prog 4 #[.slice A n c] w fun e w' => e = .returned (.bool true) ∧ Below w.heap.size w w' := by
  have H := hide hb
  have hl := hide hb.len
  clear hb
  by_cases h2000 : 2000 < n
  · go_enter Try.func4, Try.ntmps4
    go_wp2_with fail
    refine (alive4 _).mono ?_
    rintro e w1 ⟨rfl, hbel1⟩
    go_wp2_with fail
    go_ret
    exact ⟨rfl, hbel1⟩
  · go_enter Try.func4, Try.ntmps4
    go_wp2_with fail
    refine (alive4 _).mono ?_
    rintro e w1 ⟨rfl, hbel1⟩
    have hb1 : Hid (Below w.heap.size w w1) := hbel1
    go_wp2_with (at_builtin; refine appB w1.heap.size (Own.empty w1) (H.out.below (hb1.out.trans ((below_alloc _ _).mono hb1.out.size))) (by have := hl.out; first | omega | (simp; omega)) (by simp) rfl _ _ rfl rfl _ rfl ?_)
    intro v2 w2 hown2 hbel2
    obtain ⟨A2, c2, hv2, hB2, hc2, _⟩ := hown2.form
    rw [show bs.length = n from hl.out] at hv2 hB2 hc2
    subst hv2
    have hb2 : Below w.heap.size w w2 := (hb1.out.trans ((below_alloc _ _).mono hb1.out.size)).trans (hbel2.mono hb1.out.size)
    clear hbel1 hbel2
    go_wp2_with fail
    refine (frame_any A2 n c2 bs _ hB2 (by omega)).mono ?_
    rintro e w3 ⟨v3, rfl, hown3, hbel3⟩
    obtain ⟨A3, c3, hv3, hB3, hc3, _⟩ := hown3.form
    subst hv3
    have hb3 := below_both hb2 hbel3 hb2.size
    go_wp2_with fail
    refine (open_any A2 n c2 bs _ (hB2.below hbel3) (by omega) hc2).mono ?_
    rintro e w4 ⟨v4, rfl, hown4, hbel4⟩
    have hb4 := below_both hb3 hbel4 hb3.size
    go_wp2_with fail
    refine (ropen_any A n c bs _ (H.out.below hb4) (by omega) hnc).mono ?_
    rintro e w5 ⟨v5, rfl, hown5, hbel5⟩
    have hb5 := below_both hb4 hbel5 hb4.size
    go_wp2_with fail
    have C6 := open_any A3 _ c3 (frameB bs) _ ((hB3.below hbel4).below hbel5) (by rw [frame_len, hl.out]; omega) hc3
    unfold OpenPost at C6
    rw [open_frame] at C6
    refine C6.mono ?_
    rintro e w6 ⟨v6, rfl, hown6, hbel6⟩
    have hb6 := below_both hb5 hbel6 hb5.size
    clear C6
    obtain ⟨A4, c4, hv4, hB4, _, _⟩ := hown4.form
    obtain ⟨A5, c5, hv5, hB5, _, _⟩ := hown5.form
    obtain ⟨A6, c6, hv6, hB6, _, _⟩ := hown6.form
    subst hv4 hv5 hv6
    go_wp2_with fail
    have F3 : ∀ W, Ext w6 W → Sem.run Try.prog (Go.convert 22 9 (.slice A3 (frameB bs).length c3)) W = .ok (.string ⟨(frameB bs).toArray⟩) W := fun W hW => ((((hB3.below hbel4).below hbel5).below hbel6).below hW).convert c3
    have F4 : ∀ W, Ext w6 W → Sem.run Try.prog (Go.convert 22 9 (.slice A4 ((openB bs).getD []).length c4)) W = .ok (.string ⟨((openB bs).getD []).toArray⟩) W := fun W hW => (((hB4.below hbel5).below hbel6).below hW).convert c4
    have F5 : ∀ W, Ext w6 W → Sem.run Try.prog (Go.convert 22 9 (.slice A5 ((openB bs).getD []).length c5)) W = .ok (.string ⟨((openB bs).getD []).toArray⟩) W := fun W hW => ((hB5.below hbel6).below hW).convert c5
    have F6 : ∀ W, Ext w6 W → Sem.run Try.prog (Go.convert 22 9 (.slice A6 bs.length c6)) W = .ok (.string ⟨bs.toArray⟩) W := fun W hW => (hB6.below hW).convert c6
    have F2 : ∀ W, Ext w6 W → Sem.run Try.prog (Go.convert 22 9 (.slice A2 n c2)) W = .ok (.string ⟨bs.toArray⟩) W := fun W hW => (((((hB2.below hbel3).below hbel4).below hbel5).below hbel6).below hW).convert c2
    have F0 : ∀ W, Ext w6 W → Sem.run Try.prog (Go.convert 22 9 (.slice A n c)) W = .ok (.string ⟨bs.toArray⟩) W := fun W hW => ((H.out.below hb6).below hW).convert c
    have hbd : Below w6.heap.size w6 w6.drew := (Below.refl _ _).drew
    have hB0 := hide ((H.out.below hb6).below hbd)
    have hb6' := hide hb6
    clear hB2 hB3 hB4 hB5 hB6 hown2 hown3 hown4 hown5 hown6 hbel3 hbel4 hbel5 hbel6 hb2 hb3 hb4 hb5 hb6
    refine wp_region_seq [(0, false), (1, false), (2, false), (3, true), (4, false), (5, false), (6, false), (7, false), (8, false), (9, false), (10, false), (11, false), (12, false), (13, false), (14, false), (15, false), (16, false), (17, false), (18, false), (19, false), (20, false), (21, false), (22, false), (23, false), (24, false), (25, false), (26, false), (27, false), (28, false), (29, false), (30, false), (31, false), (32, false), (33, false), (34, false), (35, false)] (by kernel_rfl) (by kernel_rfl) (by kernel_rfl) rfl (by kernel_rfl) (fun _ _ d _ _ h => by cases d <;> exact h) ?_
    simp only [List.map_cons, List.map_nil, List.getElem?_cons_succ, List.getElem?_cons_zero, Option.getD_some]
    iterate 3 (refine wpSeq_take rfl rfl (fun W hW => (by go_simp; with_reducible rfl)) ?_; simp only [List.setIfInBounds_toArray, List.set_cons_zero, List.set_cons_succ])
    refine wpSeq_alone rfl (fun K hK => ?_)
    go_wp2_with fail
    refine (rframe_any A n c bs _ hB0.out (by omega)).mono ?_
    rintro e w7 ⟨v7, rfl, hown7, hbel7⟩
    obtain ⟨A7, c7, hv7, hB7, _⟩ := hown7.form
    subst hv7
    have hbd7 : Ext w6 w7 := below_both hbd hbel7 (Nat.le_refl _)
    have F7 : ∀ W, Ext w6 W → Ext w7 W → Sem.run Try.prog (Go.convert 22 9 (.slice A7 (frameB bs).length c7)) W = .ok (.string ⟨(frameB bs).toArray⟩) W := fun W _ hW => (hB7.below hW).convert c7
    refine hK _ _ w7 hbd7 (Ext.refl w7) ?_
    clear hK K
    iterate 32 (refine wpSeq_take rfl rfl (fun W hW => (by have hW6 : Ext w6 W := hbd7.trans hW; go_simp; with_reducible rfl)) ?_; simp only [List.setIfInBounds_toArray, List.set_cons_zero, List.set_cons_succ])
    refine wpSeq_nil ?_
    go_wp2
    go_ret
    exact ⟨rfl, hb6'.out.trans (hbd7.mono hb6'.out.size)⟩
end Go.Proofs.Ytbfefjlilmoigaa
