/- Walks over the reference: have all rows as many cells as the first ones? -/
import Derived.Test.YtfldbkioepcghaaT11
namespace Go.Proofs.Ytfldbkioepcghaa
open Go.RowKit
set_option linter.unusedVariables false

theorem head_of {α : Type} {ll : List (List α)} {x : List α} (h0 : ll[0]? = some x) : ll.headD [] = x := by
  cases ll with
  | nil => simp at h0
  | cons y l => simpa using h0
theorem even_of {α : Type} {ll : List (List α)} {x : List α} (a b : Nat) (h0 : ll[0]? = some x) (h : ll.all (fun r => decide (r.length = x.length)) = true) : evenL ll a b = (decide (a ≤ x.length) && decide (x.length ≤ b)) := by
  unfold evenL
  cases hab : (decide (a ≤ x.length) && decide (x.length ≤ b)) with
  | true =>
    rw [List.all_eq_true]
    intro r hr
    have := List.all_eq_true.1 h r hr
    have hl : r.length = x.length := by simpa using this
    unfold evenR
    rw [head_of h0, hl, hab]
    simp
  | false => exact all_false h0 (by unfold evenR; rw [head_of h0, hab]; simp)
theorem even_not {α : Type} {ll : List (List α)} {x row : List α} {j : Nat} (a b : Nat) (h0 : ll[0]? = some x) (hj : ll[j]? = some row) (hne : row.length ≠ x.length) : evenL ll a b = false :=
  all_false hj (by unfold evenR; rw [head_of h0]; simp [hne])

set_option maxHeartbeats 2000000 in
set_option maxRecDepth 100000 in
theorem shaped_any (A B : Option Addr) (n m c d : Nat) (t : Tab) (w : World) (hp : TabAt w A B n m t) (hn : n ≤ 1000000) (hm : m ≤ 1000000) :
    Calls Try.prog 32 #[.agg #[.slice A n c, .slice B m d]] w (EqPost w (shapedT t)) := by
  have b1 := hide (below_alloc w (.cells #[.slice A n c, .slice B m d] 25))
  have R1 : Hid (Row (w.alloc (.cells #[.slice A n c, .slice B m d] 25)) w.heap.size 25 #[.slice A n c, .slice B m d]) := Row.new _ _ _
  have HP := hide (hp.below b1.out)
  have e1 : Hid (t.acts.length = n) := hp.acts.1
  have e2 : Hid (t.gots.length = m) := hp.gots.1
  have x0 := (R1.out.cell 0).trans (show _ = some (.slice A n c) from rfl)
  have x1 := (R1.out.cell 1).trans (show _ = some (.slice B m d) from rfl)
  clear hp
  by_cases g0 : n < 1
  · have tg0 : decide ((n : Int) < 1) = true := by simp; omega
    have hres : Hid (shapedT t = false) := by
      show _ = _
      unfold shapedT
      rw [e1.out, show decide (1 ≤ n) = false from decide_eq_false (by omega)]
      rfl
    clear g0
    go_enter Try.func32, Try.ntmps32
    go_wp2_with fail
    go_ret
    exact ⟨by rw [hres.out]; rfl, b1.out⟩
  have tg0 : decide ((n : Int) < 1) = false := by simp; omega
  by_cases g1 : 300 < n
  · have tg1 : decide (300 < (n : Int)) = true := by simp; omega
    have hres : Hid (shapedT t = false) := by
      show _ = _
      unfold shapedT
      rw [e1.out, show decide (n ≤ 300) = false from decide_eq_false (by omega)]
      simp
    clear g1
    go_enter Try.func32, Try.ntmps32
    go_wp2_with fail
    go_ret
    exact ⟨by rw [hres.out]; rfl, b1.out⟩
  have tg1 : decide (300 < (n : Int)) = false := by simp; omega
  by_cases g2 : m = n
  · have tg2 : ((m : Int) != (n : Int)) = false := by simp [g2]
    have g2' := hide g2
    obtain ⟨b, o, row0, A0, c0, rfl, hr0, k1, _, k3, k4⟩ := HP.out.acts.at_ (show 0 < n by omega)
    obtain ⟨b', o', got0, G0, d0, rfl, hg0, j1, _, j3, j4⟩ := HP.out.gots.at_ (show 0 < m by omega)
    rw [Nat.add_zero] at k1 j1
    have hr0' := hide hr0
    have hg0' := hide hg0
    have hnp : 0 < n := by omega
    have hmp : 0 < m := by omega
    clear hr0 hg0 g2
    go_enter Try.func32, Try.ntmps32
    go_wp2_with fail
    clear x0 x1
    generalize w.alloc (.cells #[.slice (some ⟨b, o, none⟩) n c, .slice (some ⟨b', o', none⟩) m d] 25) = w1 at *
    have X0 : ∀ W, Ext w1 W → W.cell? ⟨w.heap.size, 0, none⟩ = some (.slice (some ⟨b, o, none⟩) n c) := fun W hW => (hW.cell R1.out.lt).trans ((R1.out.cell 0).trans rfl)
    have X1 : ∀ W, Ext w1 W → W.cell? ⟨w.heap.size, 1, none⟩ = some (.slice (some ⟨b', o', none⟩) m d) := fun W hW => (hW.cell R1.out.lt).trans ((R1.out.cell 1).trans rfl)
    have X2 : ∀ W, Ext w1 W → W.cell? ⟨b, o, none⟩ = some (.slice A0 row0.length c0) := fun W hW => (hW.cell (cell_lt k1)).trans k1
    have X3 : ∀ W, Ext w1 W → W.cell? ⟨b', o', none⟩ = some (.slice G0 got0.length d0) := fun W hW => (hW.cell (cell_lt j1)).trans j1
    clear k1 j1
    refine wp_region_seq [(0, false), (1, false), (2, false), (3, false), (4, false), (5, false), (6, false), (7, false), (8, false), (9, false), (10, false), (11, false)]
      (by kernel_rfl) (by kernel_rfl) (by kernel_rfl) rfl (by kernel_rfl) (fun _ _ d _ _ h => by cases d <;> exact h) ?_
    simp only [List.map_cons, List.map_nil, List.getElem?_cons_succ, List.getElem?_cons_zero, Option.getD_some]
    iterate 12 (refine wpSeq_take rfl rfl (fun W hW => (by have e0 := X0 W hW; have e1 := X1 W hW; have e2 := X2 W hW; have e3 := X3 W hW; go_simp; with_reducible rfl)) ?_; simp only [List.setIfInBounds_toArray, List.set_cons_zero, List.set_cons_succ])
    refine wpSeq_nil ?_
    clear X0 X1 X2 X3
    have bd : Hid (Below w.heap.size w w1.drew) := b1.out.drew
    have HPd := hide (HP.out.below (Ext.drew w1))
    have R1d : Hid (Row w1.drew w.heap.size 25 #[.slice (some ⟨b, o, none⟩) n c, .slice (some ⟨b', o', none⟩) m d]) := R1.out
    clear R1 HP b1
    generalize w1.drew = w2 at *
    have x0 := (R1d.out.cell 0).trans (show _ = some (.slice (some ⟨b, o, none⟩) n c) from rfl)
    have x1 := (R1d.out.cell 1).trans (show _ = some (.slice (some ⟨b', o', none⟩) m d) from rfl)
    go_wp2_with fail
    go_loopw [5] (fun i wr => ∃ j : Nat, j ≤ n ∧ i = .int .i64 j ∧ Hid ((t.acts.take j).all (fun r => decide (r.length = row0.length)) = true) ∧ Hid ((t.gots.take j).all (fun r => decide (r.length = got0.length)) = true) ∧ Hid (w2 = wr)) (fun i _ => n - (intOf i).toNat)
    case atStart => exact ⟨0, by omega, rfl, rfl, rfl, hide rfl⟩
    case round =>
      obtain ⟨j, hj, rfl, ht, hg, hwr⟩ := hrel
      obtain rfl := hwr.out
      by_cases hlt : j < n
      · have hlt' : decide ((j : Int) < (n : Int)) = true := by simp; omega
        have hltp : (j : Int) < (n : Int) := by omega
        have hltm : (j : Int) < (m : Int) := by have := g2'.out; omega
        obtain ⟨b9, o9, row, A', c', h9, hr, z1, _, z3, z4⟩ := HPd.out.acts.at_ hlt
        injection h9 with h9
        injection h9 with p0 q0 _
        subst p0 q0
        obtain ⟨b9, o9, got, A'', c'', h9, hgr, y1, _, y3, y4⟩ := HPd.out.gots.at_ (show j < m by have := g2'.out; omega)
        injection h9 with h9
        injection h9 with p0 q0 _
        subst p0 q0
        by_cases h5 : row.length = row0.length
        · have t5 : ((row.length : Int) != (row0.length : Int)) = false := by simp [h5]
          by_cases h6 : got.length = got0.length
          · have t6 : ((got.length : Int) != (got0.length : Int)) = false := by simp [h6]
            have ht2 : Hid ((t.acts.take (j + 1)).all (fun r => decide (r.length = row0.length)) = true) := all_take hr (by simp [h5]) ht.out
            have hg2 : Hid ((t.gots.take (j + 1)).all (fun r => decide (r.length = got0.length)) = true) := all_take hgr (by simp [h6]) hg.out
            clear hr hgr h5 h6
            go_wp2_with fail
            exact ⟨⟨j + 1, by omega, by go_num, ht2, hg2, hide trivial⟩, by simp [intOf]; omega⟩
          · have t6 : ((got.length : Int) != (got0.length : Int)) = true := by simp; omega
            have hres : Hid (shapedT t = false) := by
              show _ = _
              unfold shapedT
              rw [even_not (ll := t.gots) 0 16 hg0'.out hgr h6]
              simp
            clear hr hgr h5 h6
            go_wp2_with fail
            go_ret
            exact ⟨by rw [hres.out]; rfl, bd.out⟩
        · have t5 : ((row.length : Int) != (row0.length : Int)) = true := by simp; omega
          have hres : Hid (shapedT t = false) := by
            show _ = _
            unfold shapedT
            rw [even_not (ll := t.acts) 1 25 hr0'.out hr h5]
            simp
          clear hr hgr h5
          go_wp2_with fail
          go_ret
          exact ⟨by rw [hres.out]; rfl, bd.out⟩
      · have hlt' : decide ((j : Int) < (n : Int)) = false := by simp; omega
        have hres : Hid (shapedT t = (decide (1 ≤ row0.length) && (decide (row0.length ≤ 25) && decide (got0.length ≤ 16)))) := by
          show _ = _
          unfold shapedT
          rw [even_of 1 25 hr0'.out (all_end (by rw [e1.out]; omega) ht.out), even_of 0 16 hg0'.out (all_end (by rw [e2.out, g2'.out]; omega) hg.out), e1.out, e2.out, g2'.out,
            decide_eq_true (show 1 ≤ n by omega), decide_eq_true (show n ≤ 300 by omega), decide_eq_true (show 0 ≤ got0.length by omega)]
          simp [Bool.and_assoc]
        clear ht hg
        by_cases f1 : 1 ≤ row0.length
        · have t1 : decide ((1 : Int) ≤ (row0.length : Int)) = true := by simp; omega
          by_cases f2 : row0.length ≤ 25
          · have t2 : decide ((row0.length : Int) ≤ 25) = true := by simp; omega
            by_cases f3 : got0.length ≤ 16
            · have t3 : decide ((got0.length : Int) ≤ 16) = true := by simp; omega
              have hr2 : Hid (shapedT t = true) := by show _ = _; rw [hres.out, decide_eq_true f1, decide_eq_true f2, decide_eq_true f3]; rfl
              clear f1 f2 f3
              go_wp2_with fail
              go_ret
              exact ⟨by rw [hr2.out]; rfl, bd.out⟩
            · have t3 : decide ((got0.length : Int) ≤ 16) = false := by simp; omega
              have hr2 : Hid (shapedT t = false) := by show _ = _; rw [hres.out, decide_eq_true f1, decide_eq_true f2, decide_eq_false f3]; rfl
              clear f1 f2 f3
              go_wp2_with fail
              go_ret
              exact ⟨by rw [hr2.out]; rfl, bd.out⟩
          · have t2 : decide ((row0.length : Int) ≤ 25) = false := by simp; omega
            have hr2 : Hid (shapedT t = false) := by show _ = _; rw [hres.out, decide_eq_true f1, decide_eq_false f2]; rfl
            clear f1 f2
            go_wp2_with fail
            go_ret
            exact ⟨by rw [hr2.out]; rfl, bd.out⟩
        · have t1 : decide ((1 : Int) ≤ (row0.length : Int)) = false := by simp; omega
          have hr2 : Hid (shapedT t = false) := by show _ = _; rw [hres.out, decide_eq_false f1]; rfl
          clear f1
          go_wp2_with fail
          go_ret
          exact ⟨by rw [hr2.out]; rfl, bd.out⟩
  · have tg2 : ((m : Int) != (n : Int)) = true := by simp; omega
    have hres : Hid (shapedT t = false) := by
      show _ = _
      unfold shapedT
      rw [e1.out, e2.out, decide_eq_false g2]
      simp
    clear g2
    go_enter Try.func32, Try.ntmps32
    go_wp2_with fail
    go_ret
    exact ⟨by rw [hres.out]; rfl, b1.out⟩
end Go.Proofs.Ytfldbkioepcghaa
