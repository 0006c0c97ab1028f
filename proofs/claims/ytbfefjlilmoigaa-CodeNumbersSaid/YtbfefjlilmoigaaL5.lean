/- The walk of CodeNumbers. -/
import Derived.Test.YtbfefjlilmoigaaT15
import Derived.Test.YtbfefjlilmoigaaSeq
namespace Go.Proofs.Ytbfefjlilmoigaa
open Go.RowKit
set_option linter.unusedVariables false

set_option maxRecDepth 100000 in
theorem law_numbers (A : Option Addr) (n c : Nat) (bs : List UInt8) (at_ : Int) (m : Nat) (w : World) (hb : Bytes w A n bs) (hnc : n ≤ c) (hlo : -9223372036854775808 ≤ at_) (hhi : at_ ≤ 9223372036854775807) (hm : m < 4294967296) :
    Calls Try.prog 8 #[.slice A n c, .int .i64 at_, .int .u32 m] w fun e w' => e = .returned (.bool true) ∧ Below w.heap.size w w' := by
  have H := hide hb
  have hl := hide hb.len
  have hlo' := hide hlo
  have hhi' := hide hhi
  clear hb hlo hhi
  by_cases h1000 : 1000 < n
  · go_enter Try.func8, Try.ntmps8
    go_wp2_with fail
    refine (alive5 _).mono ?_
    rintro e w1 ⟨rfl, hbel1⟩
    go_wp2_with fail
    go_ret
    exact ⟨rfl, hbel1⟩
  have hgt : decide (1000 < (n : Int)) = false := by simp; omega
  go_enter Try.func8, Try.ntmps8
  go_wp2_with fail
  refine (alive5 _).mono ?_
  rintro e w1 ⟨rfl, hbel1⟩
  have hb1 : Hid (Below w.heap.size w w1) := hbel1
  go_wp2_with (at_builtin; refine appB w1.heap.size (Own.empty w1) (H.out.below (hb1.out.trans ((below_alloc _ _).mono hb1.out.size))) (by have := hl.out; first | omega | (simp; omega)) (by simp) rfl _ _ rfl rfl _ rfl ?_)
  intro v2 w2 hown2 hbel2
  obtain ⟨A2, c2, hv2, hB2, hc2, hm2⟩ := hown2.form3 n hl.out
  subst hv2
  have hb2 : Below w.heap.size w w2 := (hb1.out.trans ((below_alloc _ _).mono hb1.out.size)).trans (hbel2.mono hb1.out.size)
  clear hbel1 hbel2
  have C1 := get_any A2 n c2 bs at_ w2 hB2 (by omega) hc2 hm2 hlo'.out hhi'.out
  have C2 := rget_any A n c bs at_ w2 (H.out.below hb2) (by omega) hlo'.out hhi'.out
  unfold got at C1 C2
  generalize Code.getN bs at_ = r at C1 C2
  obtain ⟨x, nx, er⟩ := r
  dsimp only at C1 C2
  go_wp2_with fail
  refine C1.mono ?_
  rintro e w3 ⟨rfl, rfl⟩
  go_wp2_with fail
  refine C2.mono ?_
  rintro e w4 ⟨rfl, rfl⟩
  clear C1 C2
  go_wp2_with fail
  have F0 : ∀ W, Ext w2 W → Sem.run Try.prog (Go.convert 22 9 (.slice A n c)) W = .ok (.string ⟨bs.toArray⟩) W := fun W hW => ((H.out.below hb2).below hW).convert c
  have F2 : ∀ W, Ext w2 W → Sem.run Try.prog (Go.convert 22 9 (.slice A2 n c2)) W = .ok (.string ⟨bs.toArray⟩) W := fun W hW => (hB2.below hW).convert c2
  have HB := hide hB2
  have hb2' := hide hb2
  clear hB2 hown2 hb2
  refine wp_region_seq [(0, false), (1, false), (2, false), (3, false), (4, false), (5, false), (6, false), (7, false), (8, false), (9, false), (10, false), (11, false), (12, false), (13, false), (14, false), (15, false), (18, false), (19, false), (16, true), (17, false), (20, true), (21, false), (22, false), (23, false), (24, false), (25, false), (26, false), (27, false), (28, false), (29, false), (30, false), (31, false)]
    (by kernel_rfl) (by kernel_rfl) (by kernel_rfl) rfl (by kernel_rfl) (fun _ _ d _ _ h => by cases d <;> exact h) ?_
  simp only [List.map_cons, List.map_nil, List.getElem?_cons_succ, List.getElem?_cons_zero, Option.getD_some]
  iterate 18 (refine wpSeq_take rfl rfl (fun W hW => (by go_simp; with_reducible rfl)) ?_; simp only [List.setIfInBounds_toArray, List.set_cons_zero, List.set_cons_succ])
  refine wpSeq_alone rfl (fun K hK => ?_)
  go_wp2_with fail
  refine (put_any A2 n c2 bs m _ (HB.out.below (Ext.drew w2)) (by omega) hm).mono ?_
  rintro e w5 ⟨v5, rfl, hown5, hbel5⟩
  obtain ⟨A5, L5, c5, hv5, hL5, hB5, _⟩ := hown5.form2
  subst hv5
  have hx5 : Ext w2 w5 := below_both (Ext.drew w2) hbel5 (Nat.le_refl _)
  refine hK _ _ w5 hx5 (Ext.refl w5) ?_
  clear hK K
  have F5 : ∀ W, Ext w5 W → Sem.run Try.prog (Go.convert 22 9 (.slice A5 L5 c5)) W = .ok (.string ⟨(bs ++ Code.putN m).toArray⟩) W := fun W hW => (hB5.below hW).convert c5
  refine wpSeq_take rfl rfl (fun W hW => (by go_simp; with_reducible rfl)) ?_
  simp only [List.setIfInBounds_toArray, List.set_cons_zero, List.set_cons_succ]
  refine wpSeq_alone rfl (fun K hK => ?_)
  go_wp2_with fail
  refine (rput_any A n c bs m _ ((H.out.below hb2'.out).below hx5) (by omega) hm).mono ?_
  rintro e w6 ⟨v6, rfl, hown6, hbel6⟩
  obtain ⟨A6, L6, c6, hv6, hL6, hB6, _⟩ := hown6.form2
  subst hv6
  have hx6 : Ext w2 w6 := Ext.trans hx5 hbel6
  refine hK _ _ w6 hbel6 (Ext.refl w6) ?_
  clear hK K
  have F6 : ∀ W, Ext w6 W → Sem.run Try.prog (Go.convert 22 9 (.slice A6 L6 c6)) W = .ok (.string ⟨(bs ++ Code.putN m).toArray⟩) W := fun W hW => (hB6.below hW).convert c6
  iterate 11 (refine wpSeq_take rfl rfl (fun W hW => (by have hW2 : Ext w2 W := hx6.trans hW; go_simp; with_reducible rfl)) ?_; simp only [List.setIfInBounds_toArray, List.set_cons_zero, List.set_cons_succ])
  refine wpSeq_nil ?_
  go_wp2
  go_ret
  exact ⟨rfl, hb2'.out.trans (hx6.mono hb2'.out.size)⟩
end Go.Proofs.Ytbfefjlilmoigaa
