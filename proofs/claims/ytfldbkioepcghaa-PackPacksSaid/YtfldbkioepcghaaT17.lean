/- Walks over pack: what is packed, written out. -/
import Derived.Test.YtfldbkioepcghaaT16
namespace Go.Proofs.Ytfldbkioepcghaa
open Go.RowKit
set_option linter.unusedVariables false

set_option maxHeartbeats 8000000 in
set_option maxRecDepth 100000 in
theorem unpack_any (R O G T : Option Addr) (rn on gn tn rc oc gc tc : Nat) (p : Pk) (w : World) (hp : PkAt w R O G T rn on gn tn p) (hon : on ≤ 1000000) (htn : tn ≤ 1000000) (hrn : rn ≤ 1000000) (hgn : gn ≤ 1000000) :
    Calls Try.prog 16 #[.agg #[.int .i64 p.terms, .int .i64 p.nons, .slice R rn rc, .slice O on oc, .slice G gn gc, .slice T tn tc]] w (UnPost w (unpackE p)) := by
  cases hr : rightP p with
  | false =>
    have hres : Hid (unpackE p = (⟨[], []⟩, 1)) := by show _ = _; unfold unpackE; rw [hr]; rfl
    have b1 : Hid (Below w.heap.size w ((w.alloc (.cells #[.int .i64 p.terms, .int .i64 p.nons, .slice R rn rc, .slice O on oc, .slice G gn gc, .slice T tn tc] 33)).alloc (.cells #[.slice none 0 0, .slice none 0 0] 25))) := ((Below.refl _ _).alloc (Nat.le_refl _) _).alloc (by simp) _
    have R1 : Hid (Row ((w.alloc (.cells #[.int .i64 p.terms, .int .i64 p.nons, .slice R rn rc, .slice O on oc, .slice G gn gc, .slice T tn tc] 33)).alloc (.cells #[.slice none 0 0, .slice none 0 0] 25)) w.heap.size 33 #[.int .i64 p.terms, .int .i64 p.nons, .slice R rn rc, .slice O on oc, .slice G gn gc, .slice T tn tc]) := (Row.new _ _ _).alloc _
    have R2 : Hid (Row ((w.alloc (.cells #[.int .i64 p.terms, .int .i64 p.nons, .slice R rn rc, .slice O on oc, .slice G gn gc, .slice T tn tc] 33)).alloc (.cells #[.slice none 0 0, .slice none 0 0] 25)) (w.heap.size + 1) 25 #[.slice none 0 0, .slice none 0 0]) := by
      have := Row.new (w.alloc (.cells #[.int .i64 p.terms, .int .i64 p.nons, .slice R rn rc, .slice O on oc, .slice G gn gc, .slice T tn tc] 33)) 25 #[.slice none 0 0, .slice none 0 0]
      show Row _ _ _ _
      simpa using this
    have x0 := (R1.out.cell 0).trans (show _ = some (.int .i64 p.terms) from rfl)
    have x1 := (R1.out.cell 1).trans (show _ = some (.int .i64 p.nons) from rfl)
    have x2 := (R1.out.cell 2).trans (show _ = some (.slice R rn rc) from rfl)
    have x3 := (R1.out.cell 3).trans (show _ = some (.slice O on oc) from rfl)
    have x4 := (R1.out.cell 4).trans (show _ = some (.slice G gn gc) from rfl)
    have x5 := (R1.out.cell 5).trans (show _ = some (.slice T tn tc) from rfl)
    have C1 := right_any R O G T rn on gn tn rc oc gc tc p ((w.alloc (.cells #[.int .i64 p.terms, .int .i64 p.nons, .slice R rn rc, .slice O on oc, .slice G gn gc, .slice T tn tc] 33)).alloc (.cells #[.slice none 0 0, .slice none 0 0] 25)) (hp.below b1.out) hon htn hrn hgn
    rw [hr] at C1
    clear hp hr
    go_enter Try.func16, Try.ntmps16
    go_wp2_with fail
    clear x0 x1 x2 x3 x4 x5
    generalize ((w.alloc (.cells #[.int .i64 p.terms, .int .i64 p.nons, .slice R rn rc, .slice O on oc, .slice G gn gc, .slice T tn tc] 33)).alloc (.cells #[.slice none 0 0, .slice none 0 0] 25)) = w1 at *
    refine C1.mono ?_
    rintro e w2 ⟨rfl, hb2⟩
    have b2 := hide (below_both b1.out hb2 b1.out.size)
    have R2' := hide (R2.out.below hb2 R2.out.lt)
    have y0 := (R2'.out.cell 0).trans (show _ = some (.slice none 0 0) from rfl)
    have y1 := (R2'.out.cell 1).trans (show _ = some (.slice none 0 0) from rfl)
    have f0 := R2'.out.frozen 0
    have f1 := R2'.out.frozen 1
    clear C1 hb2
    go_wp2_with fail
    have R3 := (R2'.out.put 0 (.slice none 0 0)).put 1 (.slice none 0 0)
    have F3 : Below w.heap.size w ((w2.setCell ⟨w.heap.size + 1, 0, none⟩ (.slice none 0 0)).setCell ⟨w.heap.size + 1, 1, none⟩ (.slice none 0 0)) := (b2.out.setCell (by simp) _).setCell (by simp) _
    have d0 := (R3.cell 0).trans (show _ = some (.slice none 0 0) from rfl)
    have d1 := (R3.cell 1).trans (show _ = some (.slice none 0 0) from rfl)
    generalize ((w2.setCell ⟨w.heap.size + 1, 0, none⟩ (.slice none 0 0)).setCell ⟨w.heap.size + 1, 1, none⟩ (.slice none 0 0)) = w9 at *
    refine bodyPost_ret (v := .tuple #[.agg #[.slice none 0 0, .slice none 0 0], .int .i64 1]) (by simp [results, Try.results16, go_sem, d0, d1]) rfl ?_
    exact ⟨none, 0, none, 0, by rw [hres.out]; rfl, by rw [hres.out]; exact OwnN.nil _ _ _ _ _ _, by rw [hres.out]; exact OwnN.nil _ _ _ _ _ _, F3⟩
  | true =>
  obtain ⟨q1, q2, q3, q4, q5, q6, q7, q8, q9, qo, qt, qr, qg⟩ := right_parts hr
  have hres : Hid (unpackE p = (unpackT p, 0)) := by show _ = _; unfold unpackE; rw [hr]; rfl
  obtain ⟨terms, nons, rows, of, gotos, to⟩ := p
  obtain ⟨tt, rfl⟩ := Int.eq_ofNat_of_zero_le (show 0 ≤ terms from q1)
  obtain ⟨nn, rfl⟩ := Int.eq_ofNat_of_zero_le (show 0 ≤ nons from q3)
  have ht24 : tt ≤ 24 := by simp only at q2; omega
  have hn16 : nn ≤ 16 := by simp only at q4; omega
  have hro : Hid (numsL of (rows.length : Int) = true) := qo
  have hto : Hid (numsL to (gotos.length : Int) = true) := qt
  have hrr : Hid (rows.all (rowOk (tt : Int)) = true) := qr
  have hgg : Hid (gotos.all (gotOk (nn : Int)) = true) := qg
  have h300 : Hid (of.length ≤ 300) := q6
  have htl : Hid (to.length = of.length) := q7
  have hr' := hide hr
  have b1 : Hid (Below w.heap.size w ((w.alloc (.cells #[.int .i64 (tt : Int), .int .i64 (nn : Int), .slice R rn rc, .slice O on oc, .slice G gn gc, .slice T tn tc] 33)).alloc (.cells #[.slice none 0 0, .slice none 0 0] 25))) := ((Below.refl _ _).alloc (Nat.le_refl _) _).alloc (by simp) _
  have R1 : Hid (Row ((w.alloc (.cells #[.int .i64 (tt : Int), .int .i64 (nn : Int), .slice R rn rc, .slice O on oc, .slice G gn gc, .slice T tn tc] 33)).alloc (.cells #[.slice none 0 0, .slice none 0 0] 25)) w.heap.size 33 #[.int .i64 (tt : Int), .int .i64 (nn : Int), .slice R rn rc, .slice O on oc, .slice G gn gc, .slice T tn tc]) := (Row.new _ _ _).alloc _
  have R2 : Hid (Row ((w.alloc (.cells #[.int .i64 (tt : Int), .int .i64 (nn : Int), .slice R rn rc, .slice O on oc, .slice G gn gc, .slice T tn tc] 33)).alloc (.cells #[.slice none 0 0, .slice none 0 0] 25)) (w.heap.size + 1) 25 #[.slice none 0 0, .slice none 0 0]) := by
    have := Row.new (w.alloc (.cells #[.int .i64 (tt : Int), .int .i64 (nn : Int), .slice R rn rc, .slice O on oc, .slice G gn gc, .slice T tn tc] 33)) 25 #[.slice none 0 0, .slice none 0 0]
    show Row _ _ _ _
    simpa using this
  have x0 := (R1.out.cell 0).trans (show _ = some (.int .i64 (tt : Int)) from rfl)
  have x1 := (R1.out.cell 1).trans (show _ = some (.int .i64 (nn : Int)) from rfl)
  have x2 := (R1.out.cell 2).trans (show _ = some (.slice R rn rc) from rfl)
  have x3 := (R1.out.cell 3).trans (show _ = some (.slice O on oc) from rfl)
  have x4 := (R1.out.cell 4).trans (show _ = some (.slice G gn gc) from rfl)
  have x5 := (R1.out.cell 5).trans (show _ = some (.slice T tn tc) from rfl)
  have C1 := right_any R O G T rn on gn tn rc oc gc tc ⟨(tt : Int), (nn : Int), rows, of, gotos, to⟩ ((w.alloc (.cells #[.int .i64 (tt : Int), .int .i64 (nn : Int), .slice R rn rc, .slice O on oc, .slice G gn gc, .slice T tn tc] 33)).alloc (.cells #[.slice none 0 0, .slice none 0 0] 25)) (hp.below b1.out) hon htn hrn hgn
  rw [hr] at C1
  have HP := hide hp
  have lo : Hid (of.length = on) := hp.of.1
  have lt : Hid (to.length = tn) := hp.to.1
  have lr : Hid (rows.length = rn) := hp.rows.1
  have lg : Hid (gotos.length = gn) := hp.gotos.1
  clear hp hr q1 q2 q3 q4 q5 q6 q7 q8 q9 qo qt qr qg
  go_enter Try.func16, Try.ntmps16
  go_wp2_with fail
  clear x0 x1 x2 x3 x4 x5
  generalize ((w.alloc (.cells #[.int .i64 (tt : Int), .int .i64 (nn : Int), .slice R rn rc, .slice O on oc, .slice G gn gc, .slice T tn tc] 33)).alloc (.cells #[.slice none 0 0, .slice none 0 0] 25)) = w1 at *
  refine C1.mono ?_
  rintro e w2 ⟨rfl, hb2⟩
  have b2 := hide (below_both b1.out hb2 b1.out.size)
  have R1' := hide (R1.out.below hb2 R1.out.lt)
  have R2' := hide (R2.out.below hb2 R2.out.lt)
  have x3 := (R1'.out.cell 3).trans (show _ = some (.slice O on oc) from rfl)
  clear C1 hb2 R1 R2 b1
  go_wp2_with fail
  go_loopw [18] (fun v wr => ∃ (i : Nat) (A' B' : Option Addr) (c' d' : Nat), i ≤ on ∧ v = .int .i64 i ∧ Hid (Row wr w.heap.size 33 #[.int .i64 (tt : Int), .int .i64 (nn : Int), .slice R rn rc, .slice O on oc, .slice G gn gc, .slice T tn tc]) ∧ Hid (Row wr (w.heap.size + 1) 25 #[.slice A' i c', .slice B' i d']) ∧
    Hid (OwnN wr w.heap.size 47 43 2 f2 (.slice A' i c') ((unpackT ⟨(tt : Int), (nn : Int), rows, of, gotos, to⟩).acts.take i)) ∧ Hid (OwnN wr w.heap.size 30 3 1 f1 (.slice B' i d') ((unpackT ⟨(tt : Int), (nn : Int), rows, of, gotos, to⟩).gots.take i)) ∧ Hid (Below w.heap.size w wr)) (fun v _ => on - (intOf v).toNat)
  case atStart => exact ⟨0, none, none, 0, 0, by omega, rfl, R1', R2', OwnN.nil _ _ _ _ _ _, OwnN.nil _ _ _ _ _ _, b2⟩
  case round =>
    clear R1' R2' b2 x3
    obtain ⟨i, A', B', c', d', hi, rfl, Q1, Q2, N1, N2, hb⟩ := hrel
    generalize wr = wo at *
    by_cases hlt : i < on
    · have t1 : decide ((i : Int) < (on : Int)) = true := by simp; omega
      have hltp : (i : Int) < (on : Int) := by omega
      -- the row of actions
      obtain ⟨b, o, z, hO, hz, k0⟩ := (HP.out.of.below hb.out).at1 hlt
      have hzb := nums_at hro.out hz
      obtain ⟨q, rfl⟩ := Int.eq_ofNat_of_zero_le hzb.1
      have hql : q < rn := by have := lr.out; omega
      obtain ⟨b', o', row, Ar, cr, hR, hrow, k1, k2, k3, k4⟩ := (HP.out.rows.below hb.out).at_ hql
      obtain ⟨b3, o3, z3, hT, hz3, j0⟩ := (HP.out.to.below hb.out).at1 (show i < tn by have h1 := lo.out; have h2 := lt.out; have h3 := htl.out; omega)
      have hzb3 := nums_at hto.out hz3
      obtain ⟨q', rfl⟩ := Int.eq_ofNat_of_zero_le hzb3.1
      have hql' : q' < gn := by have := lg.out; omega
      obtain ⟨b4, o4, grow, Ag, cg, hG, hgrow, j1, j2, j3, j4⟩ := (HP.out.gotos.below hb.out).at_ hql'
      subst hO hR hT hG
      have hA : Hid ((unpackT ⟨(tt : Int), (nn : Int), rows, of, gotos, to⟩).acts.take i ++ [uRow (tt : Int) row] = (unpackT ⟨(tt : Int), (nn : Int), rows, of, gotos, to⟩).acts.take (i + 1)) := by
        show _ = _
        rw [List.take_add_one]
        congr 1
        simp [unpackT, hz, rowAt, hrow]
      have hB : Hid ((unpackT ⟨(tt : Int), (nn : Int), rows, of, gotos, to⟩).gots.take i ++ [uGot (nn : Int) grow] = (unpackT ⟨(tt : Int), (nn : Int), rows, of, gotos, to⟩).gots.take (i + 1)) := by
        show _ = _
        rw [List.take_add_one]
        congr 1
        simp [unpackT, hz3, rowAt, hgrow]
      have hok : Hid (rowOk (tt : Int) row = true) := List.all_eq_true.1 hrr.out row (List.mem_of_getElem? hrow)
      have gok : Hid (gotOk (nn : Int) grow = true) := List.all_eq_true.1 hgg.out grow (List.mem_of_getElem? hgrow)
      have hrl : row.length ≤ 30 := rowOk_len hok.out (by omega) (by omega)
      have hgl : grow.length ≤ 30 := gotOk_len gok.out (by omega) (by omega)
      have hzH := hide hz
      have hz3H := hide hz3
      have hrowH := hide hrow
      have hgrowH := hide hgrow
      have k0H := hide k0
      have k1H := hide k1
      have j0H := hide j0
      have j1H := hide j1
      clear hz hz3 hrow hgrow hzb hzb3 k0 k1 j0 j1
      have x0 := (Q1.out.cell 0).trans (show _ = some (.int .i64 (tt : Int)) from rfl)
      have hmk : (Instr.makeSlice 47 (.int .i64 ((tt : Int) + 1)) (.int .i64 ((tt : Int) + 1))).run Try.prog wo = .ok (.slice (some ⟨wo.heap.size, 0, none⟩) (tt + 1) (tt + 1)) (wo.alloc (.cells (flat f2 (List.replicate (tt + 1) ((0, 0) : Int × Int))).toArray 43)) := make47 (tt + 1) (by omega) wo
      have U0 : Hid (Row (wo.alloc (.cells (flat f2 (List.replicate (tt + 1) ((0, 0) : Int × Int))).toArray 43)) wo.heap.size 43 (flat f2 (List.replicate (tt + 1) ((0, 0) : Int × Int))).toArray) := Row.new _ _ _
      have B0 : Hid (Below wo.heap.size wo (wo.alloc (.cells (flat f2 (List.replicate (tt + 1) ((0, 0) : Int × Int))).toArray 43))) := below_alloc _ _
      go_wp2_with fail
      clear hmk x0
      generalize (wo.alloc (.cells (flat f2 (List.replicate (tt + 1) ((0, 0) : Int × Int))).toArray 43)) = w5 at *
      have E5 : ∀ W, Ext w5 W → Below wo.heap.size wo W := fun W hW => below_both B0.out hW B0.out.size
      have X0 : ∀ W, Ext w5 W → W.cell? ⟨w.heap.size, 2, none⟩ = some (.slice (some ⟨b', o', none⟩) rn rc) := fun W hW => ((E5 W hW).cell Q1.out.lt).trans ((Q1.out.cell 2).trans rfl)
      have X1 : ∀ W, Ext w5 W → W.cell? ⟨w.heap.size, 3, none⟩ = some (.slice (some ⟨b, o, none⟩) on oc) := fun W hW => ((E5 W hW).cell Q1.out.lt).trans ((Q1.out.cell 3).trans rfl)
      have X2 : ∀ W, Ext w5 W → W.cell? ⟨b, o + i, none⟩ = some (.int .i64 (q : Int)) := fun W hW => ((E5 W hW).cell (cell_lt k0H.out)).trans k0H.out
      have X3 : ∀ W, Ext w5 W → W.cell? ⟨b', o' + q, none⟩ = some (.slice Ar row.length cr) := fun W hW => ((E5 W hW).cell (cell_lt k1H.out)).trans k1H.out
      have hqlp : (q : Int) < (rn : Int) := by omega
      refine wp_region_seq [(0, false), (1, false), (2, false), (3, false), (4, false), (5, false), (6, false), (7, false), (8, false), (9, false), (10, false)]
        (by kernel_rfl) (by kernel_rfl) (by kernel_rfl) rfl (by kernel_rfl) (fun _ _ d _ _ h => by cases d <;> exact h) ?_
      simp only [List.map_cons, List.map_nil, List.getElem?_cons_succ, List.getElem?_cons_zero, Option.getD_some]
      iterate 11 (refine wpSeq_take rfl rfl (fun W hW => (by have e0 := X0 W hW; have e1 := X1 W hW; have e2 := X2 W hW; have e3 := X3 W hW; go_simp; with_reducible rfl)) ?_; simp only [List.setIfInBounds_toArray, List.set_cons_zero, List.set_cons_succ])
      refine wpSeq_nil ?_
      clear X0 X1 X2 X3 E5
      have U1 : Hid (Row w5.drew wo.heap.size 43 (flat f2 (uRow (tt : Int) (row.take 0))).toArray) := U0
      have B1 : Hid (Below wo.heap.size wo w5.drew) := B0.out.drew
      clear U0 B0
      generalize w5.drew = w6 at *
      go_wp2_with fail
      go_loopw [35] (fun v wr => ∃ (k : Nat), k ≤ row.length ∧ v = .int .i64 k ∧ Hid (Row wr wo.heap.size 43 (flat f2 (uRow (tt : Int) (row.take k))).toArray) ∧ Hid (Below wo.heap.size wo wr)) (fun v _ => row.length - (intOf v).toNat)
      case atStart => exact ⟨0, by omega, rfl, U1, B1⟩
      case round =>
        clear U1 B1
        obtain ⟨k, hk, rfl, U, hb6⟩ := hrel
        by_cases hlk : k < row.length
        · have t2 : decide ((k : Int) < (row.length : Int)) = true := by simp; omega
          have hlkp : (k : Int) < (row.length : Int) := by omega
          obtain ⟨b5, o5, ⟨x, y1, y2⟩, hAr, hx, e0, e1, e2⟩ := (k2.below hb6.out).at3 hlk
          subst hAr
          have hxb := rowOk_at hok.out hx
          obtain ⟨cc, hcc⟩ := Int.eq_ofNat_of_zero_le (show 0 ≤ x from hxb.1)
          subst hcc
          have hct : cc < tt + 1 := by simp only at hxb; omega
          have hctp : (cc : Int) < (tt : Int) + 1 := by omega
          have hX := hide hx
          clear hx hxb
          have V := Row.new wr 54 #[.int .i64 (cc : Int), .int .i64 y1, .int .i64 y2]
          have v0 := (V.cell 0).trans (show _ = some (.int .i64 (cc : Int)) from rfl)
          have v1 := (V.cell 1).trans (show _ = some (.int .i64 y1) from rfl)
          have v2 := (V.cell 2).trans (show _ = some (.int .i64 y2) from rfl)
          have Ua := U.out.alloc (.cells #[.int .i64 (cc : Int), .int .i64 y1, .int .i64 y2] 54)
          have hul : (flat f2 (uRow (tt : Int) (row.take k))).length = (tt + 1) * 2 := by rw [flat_len k2L, uRow_len]; simp
          obtain ⟨s0, hs0⟩ : ∃ s0, (flat f2 (uRow (tt : Int) (row.take k))).toArray[cc * 2]? = some s0 := ⟨_, by rw [List.getElem?_toArray]; exact List.getElem?_eq_getElem (by omega)⟩
          obtain ⟨s1, hs1⟩ : ∃ s1, (flat f2 (uRow (tt : Int) (row.take k))).toArray[cc * 2 + 1]? = some s1 := ⟨_, by rw [List.getElem?_toArray]; exact List.getElem?_eq_getElem (by omega)⟩
          have u0 := (Ua.cell (cc * 2)).trans hs0
          have u1 := (Ua.cell (cc * 2 + 1)).trans hs1
          have g0 := Ua.frozen (cc * 2)
          have g1 := Ua.frozen (cc * 2 + 1)
          have UaH := hide Ua
          clear V Ua hs0 hs1 hul
          go_wp2_with fail
          have harr : (((flat f2 (uRow (tt : Int) (row.take k))).toArray.setIfInBounds (cc * 2) (.int .i64 y1)).setIfInBounds (cc * 2 + 1) (.int .i64 y2)) = (flat f2 (uRow (tt : Int) (row.take (k + 1)))).toArray := by
            rw [List.setIfInBounds_toArray, List.setIfInBounds_toArray, flat_set2 _ cc (y1, y2), ← uRow_step _ _ hX.out]
          have U' := (UaH.out.put (cc * 2) (.int .i64 y1)).put (cc * 2 + 1) (.int .i64 y2)
          rw [harr] at U'
          exact ⟨⟨k + 1, by omega, rfl, U', ((hb6.out.alloc hb6.out.size _).setCell (Nat.le_refl _) _).setCell (Nat.le_refl _) _⟩, by simp [intOf]; omega⟩
        · have t2 : decide ((k : Int) < (row.length : Int)) = false := by simp; omega
          have hlkp : ¬ (k : Int) < (row.length : Int) := by omega
          have U1 : Hid (Row wr wo.heap.size 43 (flat f2 (uRow (tt : Int) row)).toArray) := by
            have := U.out
            rwa [show row.take k = row from List.take_of_length_le (by omega)] at this
          clear U hlk
          have hk2 : k = row.length ∨ True := .inr trivial
          have Q1r := Q1.out.below hb6.out Q1.out.lt
          have z1 := ((Q1r.alloc (.cells #[.int .i64 (-1)] 3)).cell 1).trans (show _ = some (.int .i64 (nn : Int)) from rfl)
          have C2 := rep_any wr.heap.size nn hn16 (wr.alloc (.cells #[.int .i64 (-1)] 3)) (Row.new _ _ _)
          go_wp2_with fail
          have U2 := U1.out.alloc (.cells #[.int .i64 (-1)] 3)
          have B2 := hb6.out.alloc hb6.out.size (.cells #[.int .i64 (-1)] 3)
          have L2 : wo.heap.size < (wr.alloc (.cells #[.int .i64 (-1)] 3)).heap.size := U2.lt
          clear z1 U1 hb6 hk2 Q1r
          generalize (wr.alloc (.cells #[.int .i64 (-1)] 3)) = w6 at *
          refine C2.mono ?_
          rintro e w7 ⟨g2, rfl, G0, hg2, hb7⟩
          have U3 := hide (U2.below hb7 L2)
          have B3 := hide (below_both B2 hb7 B2.size)
          have hne : Hid (wo.heap.size < g2) := Nat.lt_of_lt_of_le L2 hg2
          have G1 : Hid (Row w7 g2 3 (flat f1 (uGot (nn : Int) (grow.take 0))).toArray) := by
            show Row _ _ _ _
            rw [show uGot (nn : Int) (grow.take 0) = List.replicate nn (-1) from rfl, flat_rep1]
            exact G0
          clear C2 U2 B2 L2 hg2 hb7 G0
          go_wp2_with fail
          have E5 : ∀ W, Ext w7 W → Below wo.heap.size wo W := fun W hW => below_both B3.out hW B3.out.size
          have X0 : ∀ W, Ext w7 W → W.cell? ⟨w.heap.size, 4, none⟩ = some (.slice (some ⟨b4, o4, none⟩) gn gc) := fun W hW => ((E5 W hW).cell Q1.out.lt).trans ((Q1.out.cell 4).trans rfl)
          have X1 : ∀ W, Ext w7 W → W.cell? ⟨w.heap.size, 5, none⟩ = some (.slice (some ⟨b3, o3, none⟩) tn tc) := fun W hW => ((E5 W hW).cell Q1.out.lt).trans ((Q1.out.cell 5).trans rfl)
          have X2 : ∀ W, Ext w7 W → W.cell? ⟨b3, o3 + i, none⟩ = some (.int .i64 (q' : Int)) := fun W hW => ((E5 W hW).cell (cell_lt j0H.out)).trans j0H.out
          have X3 : ∀ W, Ext w7 W → W.cell? ⟨b4, o4 + q', none⟩ = some (.slice Ag grow.length cg) := fun W hW => ((E5 W hW).cell (cell_lt j1H.out)).trans j1H.out
          have hqlp' : (q' : Int) < (gn : Int) := by omega
          have hitn : (i : Int) < (tn : Int) := by have h1 := lo.out; have h2 := lt.out; have h3 := htl.out; omega
          refine wp_region_seq [(0, false), (1, false), (2, false), (3, false), (4, false), (5, false), (6, false), (7, false), (8, false), (9, false), (10, false)]
            (by kernel_rfl) (by kernel_rfl) (by kernel_rfl) rfl (by kernel_rfl) (fun _ _ d _ _ h => by cases d <;> exact h) ?_
          simp only [List.map_cons, List.map_nil, List.getElem?_cons_succ, List.getElem?_cons_zero, Option.getD_some]
          iterate 11 (refine wpSeq_take rfl rfl (fun W hW => (by have e0 := X0 W hW; have e1 := X1 W hW; have e2 := X2 W hW; have e3 := X3 W hW; go_simp; with_reducible rfl)) ?_; simp only [List.setIfInBounds_toArray, List.set_cons_zero, List.set_cons_succ])
          refine wpSeq_nil ?_
          clear X0 X1 X2 X3 E5
          have U4 : Hid (Row w7.drew wo.heap.size 43 (flat f2 (uRow (tt : Int) row)).toArray) := U3
          have G4 : Hid (Row w7.drew g2 3 (flat f1 (uGot (nn : Int) (grow.take 0))).toArray) := G1
          have B4 : Hid (Below wo.heap.size wo w7.drew) := B3.out.drew
          clear U3 B3 G1
          generalize w7.drew = w8 at *
          go_wp2_with fail
          clear hlkp t2
          go_loopw [60] (fun v wr => ∃ (k : Nat), k ≤ grow.length ∧ v = .int .i64 k ∧ Hid (Row wr wo.heap.size 43 (flat f2 (uRow (tt : Int) row)).toArray) ∧ Hid (Row wr g2 3 (flat f1 (uGot (nn : Int) (grow.take k))).toArray) ∧ Hid (Below wo.heap.size wo wr)) (fun v _ => grow.length - (intOf v).toNat)
          case atStart => exact ⟨0, by omega, rfl, U4, G4, B4⟩
          case round =>
            clear U4 G4 B4 hk
            obtain ⟨k, hk, rfl, U, G, hb6⟩ := hrel
            by_cases hlk : k < grow.length
            · have t2 : decide ((k : Int) < (grow.length : Int)) = true := by simp; omega
              have hlkp : (k : Int) < (grow.length : Int) := by omega
              obtain ⟨b5, o5, ⟨x, y⟩, hAg, hx, e0, e1⟩ := (j2.below hb6.out).at2 hlk
              subst hAg
              have hxb := gotOk_at gok.out hx
              obtain ⟨cc, hcc⟩ := Int.eq_ofNat_of_zero_le (show 0 ≤ x from hxb.1)
              subst hcc
              have hct : cc < nn := by simp only at hxb; omega
              have hctp : (cc : Int) < (nn : Int) := by omega
              have hX := hide hx
              clear hx hxb
              have V := Row.new wr 59 #[.int .i64 (cc : Int), .int .i64 y]
              have v0 := (V.cell 0).trans (show _ = some (.int .i64 (cc : Int)) from rfl)
              have v1 := (V.cell 1).trans (show _ = some (.int .i64 y) from rfl)
              have Ga := G.out.alloc (.cells #[.int .i64 (cc : Int), .int .i64 y] 59)
              have hul : (flat f1 (uGot (nn : Int) (grow.take k))).length = nn := by rw [flat_len Ytfldbkioepcghaa.k1, uGot_len]; simp
              obtain ⟨s0, hs0⟩ : ∃ s0, (flat f1 (uGot (nn : Int) (grow.take k))).toArray[cc]? = some s0 := ⟨_, by rw [List.getElem?_toArray]; exact List.getElem?_eq_getElem (by omega)⟩
              have u0 := (Ga.cell cc).trans hs0
              have g0 := Ga.frozen cc
              have GaH := hide Ga
              clear V Ga hs0 hul
              go_wp2_with fail
              have harr : ((flat f1 (uGot (nn : Int) (grow.take k))).toArray.setIfInBounds cc (.int .i64 y)) = (flat f1 (uGot (nn : Int) (grow.take (k + 1)))).toArray := by
                rw [List.setIfInBounds_toArray, flat_set1 _ cc y, ← uGot_step _ _ hX.out]
              have G' := GaH.out.put cc (.int .i64 y)
              rw [harr] at G'
              have U' := (U.out.alloc (.cells #[.int .i64 (cc : Int), .int .i64 y] 59)).far (p := ⟨g2, cc, none⟩) (by have := hne.out; simp; omega) (.int .i64 y)
              exact ⟨⟨k + 1, by omega, rfl, U', G', (hb6.out.alloc hb6.out.size _).setCell (by have := hne.out; simp; omega) _⟩, by simp [intOf]; omega⟩
            · have t2 : decide ((k : Int) < (grow.length : Int)) = false := by simp; omega
              have hlkp : ¬ (k : Int) < (grow.length : Int) := by omega
              have G5 : Hid (Row wr g2 3 (flat f1 (uGot (nn : Int) grow)).toArray) := by
                have := G.out
                rwa [show grow.take k = grow from List.take_of_length_le (by omega)] at this
              clear G hlk
              go_wp2_with fail
              have n1d := hide (N1.out.below hb6.out.drew)
              have n2d := hide (N2.out.below hb6.out.drew)
              have q2d := hide (Q2.out.below hb6.out.drew Q2.out.lt)
              have q1d := hide (Q1.out.below hb6.out.drew Q1.out.lt)
              have hua : (uRow (tt : Int) row).length = tt + 1 := by rw [uRow_len]; simp
              have hug : (uGot (nn : Int) grow).length = nn := by rw [uGot_len]; simp
              have t1d : Hid (InT wr.drew 43 2 f2 (some ⟨wo.heap.size, 0, none⟩) (tt + 1) (uRow (tt : Int) row)) := by
                have := row_inT (w := wr.drew) Ytfldbkioepcghaa.k2 (show Row wr.drew _ _ _ from U.out) (by omega)
                rwa [hua] at this
              have t2d : Hid (InT wr.drew 3 1 f1 (some ⟨g2, 0, none⟩) nn (uGot (nn : Int) grow)) := by
                have := row_inT (w := wr.drew) Ytfldbkioepcghaa.k1 (show Row wr.drew _ _ _ from G5.out) (by omega)
                rwa [hug] at this
              have hLA : ((unpackT ⟨(tt : Int), (nn : Int), rows, of, gotos, to⟩).acts.take i).length = i := by
                have h1 := lo.out
                simp [unpackT]; omega
              have hLB : ((unpackT ⟨(tt : Int), (nn : Int), rows, of, gotos, to⟩).gots.take i).length = i := by
                have h1 := lo.out; have h2 := lt.out; have h3 := htl.out
                simp [unpackT]; omega
              have hbd : Hid (Below w.heap.size w wr.drew) := hb.out.trans (hb6.out.drew.mono hb.out.size)
              have hDw : Hid (w.heap.size + 1 < wr.drew.heap.size) := q2d.out.lt
              have hD : Hid (w.heap.size ≤ wr.drew.heap.size) := hbd.out.size
              clear N1 N2 Q2 Q1 hb hb6 U G5
              generalize hA1 : (unpackT ⟨(tt : Int), (nn : Int), rows, of, gotos, to⟩).acts.take i = LA at hA n1d hLA
              generalize hB1 : (unpackT ⟨(tt : Int), (nn : Int), rows, of, gotos, to⟩).gots.take i = LB at hB n2d hLB
              clear hA1 hB1
              generalize hu1 : uRow (tt : Int) row = ua at hA t1d hua
              generalize hu2 : uGot (nn : Int) grow = ug at hB t2d hug
              clear hu1 hu2
              have k00 := (q2d.out.cell 0).trans (show _ = some (.slice A' i c') from rfl)
              have k01 := (q2d.out.cell 1).trans (show _ = some (.slice B' i d') from rfl)
              have E1 := below_alloc wr.drew (.cells #[.slice (some ⟨wo.heap.size, 0, none⟩) (tt + 1) (tt + 1)] 47)
              have E2 := below_alloc wr.drew (.cells #[.slice (some ⟨g2, 0, none⟩) nn nn] 30)
              have E12 := E1.alloc (by simp) (.cells #[.slice (some ⟨g2, 0, none⟩) nn nn] 30)
              have E21 := E2.alloc (by simp) (.cells #[.slice (some ⟨wo.heap.size, 0, none⟩) (tt + 1) (tt + 1)] 47)
              have k10 : (wr.alloc (.cells #[.slice (some ⟨wo.heap.size, 0, none⟩) (tt + 1) (tt + 1)] 47)).cell? ⟨w.heap.size + 1, 0, none⟩ = some (.slice A' i c') := ((q2d.out.below E1 q2d.out.lt).cell 0).trans rfl
              have k11 : (wr.alloc (.cells #[.slice (some ⟨wo.heap.size, 0, none⟩) (tt + 1) (tt + 1)] 47)).cell? ⟨w.heap.size + 1, 1, none⟩ = some (.slice B' i d') := ((q2d.out.below E1 q2d.out.lt).cell 1).trans rfl
              have k20 : (wr.alloc (.cells #[.slice (some ⟨g2, 0, none⟩) nn nn] 30)).cell? ⟨w.heap.size + 1, 0, none⟩ = some (.slice A' i c') := ((q2d.out.below E2 q2d.out.lt).cell 0).trans rfl
              have k21 : (wr.alloc (.cells #[.slice (some ⟨g2, 0, none⟩) nn nn] 30)).cell? ⟨w.heap.size + 1, 1, none⟩ = some (.slice B' i d') := ((q2d.out.below E2 q2d.out.lt).cell 1).trans rfl
              have k120 : ((wr.alloc (.cells #[.slice (some ⟨wo.heap.size, 0, none⟩) (tt + 1) (tt + 1)] 47)).alloc (.cells #[.slice (some ⟨g2, 0, none⟩) nn nn] 30)).cell? ⟨w.heap.size + 1, 0, none⟩ = some (.slice A' i c') := ((q2d.out.below E12 q2d.out.lt).cell 0).trans rfl
              have k121 : ((wr.alloc (.cells #[.slice (some ⟨wo.heap.size, 0, none⟩) (tt + 1) (tt + 1)] 47)).alloc (.cells #[.slice (some ⟨g2, 0, none⟩) nn nn] 30)).cell? ⟨w.heap.size + 1, 1, none⟩ = some (.slice B' i d') := ((q2d.out.below E12 q2d.out.lt).cell 1).trans rfl
              have k210 : ((wr.alloc (.cells #[.slice (some ⟨g2, 0, none⟩) nn nn] 30)).alloc (.cells #[.slice (some ⟨wo.heap.size, 0, none⟩) (tt + 1) (tt + 1)] 47)).cell? ⟨w.heap.size + 1, 0, none⟩ = some (.slice A' i c') := ((q2d.out.below E21 q2d.out.lt).cell 0).trans rfl
              have k211 : ((wr.alloc (.cells #[.slice (some ⟨g2, 0, none⟩) nn nn] 30)).alloc (.cells #[.slice (some ⟨wo.heap.size, 0, none⟩) (tt + 1) (tt + 1)] 47)).cell? ⟨w.heap.size + 1, 1, none⟩ = some (.slice B' i d') := ((q2d.out.below E21 q2d.out.lt).cell 1).trans rfl
              have RB12 : Row ((wr.drew.alloc (.cells #[.slice (some ⟨wo.heap.size, 0, none⟩) (tt + 1) (tt + 1)] 47)).alloc (.cells #[.slice (some ⟨g2, 0, none⟩) nn nn] 30)) (wr.heap.size + 1) 30 #[.slice (some ⟨g2, 0, none⟩) nn nn] := by
                have := Row.new (wr.drew.alloc (.cells #[.slice (some ⟨wo.heap.size, 0, none⟩) (tt + 1) (tt + 1)] 47)) 30 #[.slice (some ⟨g2, 0, none⟩) nn nn]
                simpa using this
              have RB21 : Row ((wr.drew.alloc (.cells #[.slice (some ⟨g2, 0, none⟩) nn nn] 30)).alloc (.cells #[.slice (some ⟨wo.heap.size, 0, none⟩) (tt + 1) (tt + 1)] 47)) (wr.heap.size + 1) 47 #[.slice (some ⟨wo.heap.size, 0, none⟩) (tt + 1) (tt + 1)] := by
                have := Row.new (wr.drew.alloc (.cells #[.slice (some ⟨g2, 0, none⟩) nn nn] 30)) 47 #[.slice (some ⟨wo.heap.size, 0, none⟩) (tt + 1) (tt + 1)]
                simpa using this
              go_region_law (first
                | (refine stepN' ti22 (by decide) w.heap.size (n1d.out.below E1) hua (Row.new wr.drew _ _) (t1d.out.below E1) (by omega) (by omega) (by omega) (Nat.le_trans hD.out E1.size) rfl _ _ rfl rfl rfl ?_; intro Aa ca w5 m1 hb5 hrow5 hg5; obtain ⟨us5, ho5⟩ := (n1d.out.below E1).owns; have m2 := (n2d.out.below E1).grown ho5 hg5 (by decide) (by decide); have s2 := (t2d.out.below E1).grown ho5 hg5 (by decide); have q5 := hrow5 _ _ _ ((q2d.out.below E1 q2d.out.lt)) (by decide); have k5 := (q5.cell 1).trans (show _ = some (.slice B' i d') from rfl); have k5x := ((q5.alloc (.cells #[.slice (some ⟨g2, 0, none⟩) nn nn] 30)).cell 1).trans (show _ = some (.slice B' i d') from rfl); have e5 := (E1.mono hD.out).trans hb5; have p5 := hrow5 _ _ _ (q1d.out.below E1 q1d.out.lt) (by decide); clear us5 ho5 hb5 hrow5 hg5)
                | (refine stepN' ti22 (by decide) w.heap.size (n1d.out.below E12) hua ((Row.new wr.drew _ _).alloc _) (t1d.out.below E12) (by omega) (by omega) (by omega) (Nat.le_trans hD.out E12.size) rfl _ _ rfl rfl rfl ?_; intro Aa ca w5 m1 hb5 hrow5 hg5; obtain ⟨us5, ho5⟩ := (n1d.out.below E12).owns; have m2 := (n2d.out.below E12).grown ho5 hg5 (by decide) (by decide); have s2 := (t2d.out.below E12).grown ho5 hg5 (by decide); have q5 := hrow5 _ _ _ ((q2d.out.below E12 q2d.out.lt)) (by decide); have k5 := (q5.cell 1).trans (show _ = some (.slice B' i d') from rfl); have k5x := ((q5.alloc (.cells #[.slice (some ⟨g2, 0, none⟩) nn nn] 30)).cell 1).trans (show _ = some (.slice B' i d') from rfl); have e5 := (E12.mono hD.out).trans hb5; have r5 := hrow5 _ _ _ RB12 (by decide); have p5 := hrow5 _ _ _ (q1d.out.below E12 q1d.out.lt) (by decide); clear us5 ho5 hb5 hrow5 hg5)
                | (refine stepN' ti22 (by decide) w.heap.size (n1d.out.below E21) hua RB21 (t1d.out.below E21) (by omega) (by omega) (by omega) (Nat.le_trans hD.out E21.size) rfl _ _ rfl rfl rfl ?_; intro Aa ca w5 m1 hb5 hrow5 hg5; obtain ⟨us5, ho5⟩ := (n1d.out.below E21).owns; have m2 := (n2d.out.below E21).grown ho5 hg5 (by decide) (by decide); have s2 := (t2d.out.below E21).grown ho5 hg5 (by decide); have q5 := hrow5 _ _ _ ((q2d.out.below E21 q2d.out.lt)) (by decide); have k5 := (q5.cell 1).trans (show _ = some (.slice B' i d') from rfl); have k5x := ((q5.alloc (.cells #[.slice (some ⟨g2, 0, none⟩) nn nn] 30)).cell 1).trans (show _ = some (.slice B' i d') from rfl); have e5 := (E21.mono hD.out).trans hb5; have r5 := hrow5 _ _ _ ((Row.new wr.drew _ _).alloc _) (by decide); have p5 := hrow5 _ _ _ (q1d.out.below E21 q1d.out.lt) (by decide); clear us5 ho5 hb5 hrow5 hg5)
                | (refine stepN' ti23 (by decide) w.heap.size (m2.below (below_alloc w5 _)) hug (Row.new w5 _ _) (s2.below (below_alloc w5 _)) (by omega) (by omega) (by omega) (Nat.le_trans hD.out (e5.alloc (Nat.le_trans hD.out e5.size) _).size) rfl _ _ rfl rfl rfl ?_; intro Ab cb w7 mm hb7 hrow7 hg7; obtain ⟨us7, ho7⟩ := (m2.below (below_alloc w5 _)).owns; have m1' := (m1.below (below_alloc w5 _)).grown ho7 hg7 (by decide) (by decide); have m2' := mm; have q7 := hrow7 _ _ _ (q5.alloc _) (by decide); have p7 := hrow7 _ _ _ (p5.alloc _) (by decide); have k70 := (q7.cell 0).trans (show _ = some (.slice A' i c') from rfl); have k71 := (q7.cell 1).trans (show _ = some (.slice B' i d') from rfl); have f70 := q7.frozen 0; have f71 := q7.frozen 1; have e7 := (e5.alloc (Nat.le_trans hD.out e5.size) _).trans hb7; clear us7 ho7 hb7 hrow7 hg7 mm)
                | (refine stepN' ti23 (by decide) w.heap.size m2 hug r5 s2 (by omega) (by omega) (by omega) (Nat.le_trans hD.out e5.size) rfl _ _ rfl rfl rfl ?_; intro Ab cb w7 mm hb7 hrow7 hg7; obtain ⟨us7, ho7⟩ := m2.owns; have m1' := m1.grown ho7 hg7 (by decide) (by decide); have m2' := mm; have q7 := hrow7 _ _ _ q5 (by decide); have p7 := hrow7 _ _ _ p5 (by decide); have k70 := (q7.cell 0).trans (show _ = some (.slice A' i c') from rfl); have k71 := (q7.cell 1).trans (show _ = some (.slice B' i d') from rfl); have f70 := q7.frozen 0; have f71 := q7.frozen 1; have e7 := e5.trans hb7; clear us7 ho7 hb7 hrow7 hg7 mm))
              all_goals (
                have S1 : Hid (Row ((w7.setCell ⟨w.heap.size + 1, 0, none⟩ (.slice Aa (i + 1) ca)).setCell ⟨w.heap.size + 1, 1, none⟩ (.slice Ab (i + 1) cb)) w.heap.size 33 #[.int .i64 (tt : Int), .int .i64 (nn : Int), .slice (some ⟨b', o', none⟩) rn rc, .slice (some ⟨b, o, none⟩) on oc, .slice (some ⟨b4, o4, none⟩) gn gc, .slice (some ⟨b3, o3, none⟩) tn tc]) := (p7.far (by simp) _).far (by simp) _
                have S2 : Hid (Row ((w7.setCell ⟨w.heap.size + 1, 0, none⟩ (.slice Aa (i + 1) ca)).setCell ⟨w.heap.size + 1, 1, none⟩ (.slice Ab (i + 1) cb)) (w.heap.size + 1) 25 #[.slice Aa (i + 1) ca, .slice Ab (i + 1) cb]) := (q7.put 0 (.slice Aa (i + 1) ca)).put 1 (.slice Ab (i + 1) cb)
                have G1 := (m1'.far (grown_put w7 (w.heap.size + 1) 0 (.slice Aa (i + 1) ca)) q7 (by decide) (by decide)).far (grown_put _ (w.heap.size + 1) 1 (.slice Ab (i + 1) cb)) (q7.put 0 (.slice Aa (i + 1) ca)) (by decide) (by decide)
                have G2 := (m2'.far (grown_put w7 (w.heap.size + 1) 0 (.slice Aa (i + 1) ca)) q7 (by decide) (by decide)).far (grown_put _ (w.heap.size + 1) 1 (.slice Ab (i + 1) cb)) (q7.put 0 (.slice Aa (i + 1) ca)) (by decide) (by decide)
                rw [hA.out] at G1
                rw [hB.out] at G2
                have SB : Hid (Below w.heap.size w ((w7.setCell ⟨w.heap.size + 1, 0, none⟩ (.slice Aa (i + 1) ca)).setCell ⟨w.heap.size + 1, 1, none⟩ (.slice Ab (i + 1) cb))) := ((hbd.out.trans e7).setCell (by simp) _).setCell (by simp) _
                have G1 := hide G1
                have G2 := hide G2
                clear m1' m2' q7 p7 k70 k71 f70 f71 e7
                generalize ((w7.setCell ⟨w.heap.size + 1, 0, none⟩ (.slice Aa (i + 1) ca)).setCell ⟨w.heap.size + 1, 1, none⟩ (.slice Ab (i + 1) cb)) = w8 at *
                go_wp2_with fail
                exact ⟨⟨i + 1, Aa, Ab, ca, cb, by omega, by go_num, S1, S2, G1, G2, SB⟩, by simp [intOf]; omega⟩)
    · have t1 : decide ((i : Int) < (on : Int)) = false := by simp; omega
      have hltp : ¬ (i : Int) < (on : Int) := by omega
      have hla : (unpackT ⟨(tt : Int), (nn : Int), rows, of, gotos, to⟩).acts.length = on := by have := lo.out; simp [unpackT]; omega
      have hlb : (unpackT ⟨(tt : Int), (nn : Int), rows, of, gotos, to⟩).gots.length = on := by have h1 := lo.out; have h2 := htl.out; simp [unpackT]; omega
      have hion : i = on := by omega
      rw [← hion] at hla hlb
      have N1' : Hid (OwnN wo w.heap.size 47 43 2 f2 (.slice A' i c') (unpackT ⟨(tt : Int), (nn : Int), rows, of, gotos, to⟩).acts) := by
        have := N1.out
        rwa [List.take_of_length_le (by omega)] at this
      have N2' : Hid (OwnN wo w.heap.size 30 3 1 f1 (.slice B' i d') (unpackT ⟨(tt : Int), (nn : Int), rows, of, gotos, to⟩).gots) := by
        have := N2.out
        rwa [List.take_of_length_le (by omega)] at this
      have hla := hide hla
      have hlb := hide hlb
      have y0 := (Q2.out.cell 0).trans (show _ = some (.slice A' i c') from rfl)
      have y1 := (Q2.out.cell 1).trans (show _ = some (.slice B' i d') from rfl)
      have fz0 := Q2.out.frozen 0
      have fz1 := Q2.out.frozen 1
      clear N1 N2 hlt hion
      go_wp2_with fail
      have R3 := (Q2.out.put 0 (.slice A' i c')).put 1 (.slice B' i d')
      have F1 := (N1'.out.far (grown_put wo (w.heap.size + 1) 0 (.slice A' i c')) Q2.out (by decide) (by decide)).far (grown_put _ (w.heap.size + 1) 1 (.slice B' i d')) (Q2.out.put 0 (.slice A' i c')) (by decide) (by decide)
      have F2 := (N2'.out.far (grown_put wo (w.heap.size + 1) 0 (.slice A' i c')) Q2.out (by decide) (by decide)).far (grown_put _ (w.heap.size + 1) 1 (.slice B' i d')) (Q2.out.put 0 (.slice A' i c')) (by decide) (by decide)
      have F3 : Below w.heap.size w ((wo.setCell ⟨w.heap.size + 1, 0, none⟩ (.slice A' i c')).setCell ⟨w.heap.size + 1, 1, none⟩ (.slice B' i d')) := (hb.out.setCell (by simp) _).setCell (by simp) _
      have d0 := (R3.cell 0).trans (show _ = some (.slice A' i c') from rfl)
      have d1 := (R3.cell 1).trans (show _ = some (.slice B' i d') from rfl)
      generalize ((wo.setCell ⟨w.heap.size + 1, 0, none⟩ (.slice A' i c')).setCell ⟨w.heap.size + 1, 1, none⟩ (.slice B' i d')) = w9 at *
      refine bodyPost_ret (v := .tuple #[.agg #[.slice A' i c', .slice B' i d'], .int .i64 0]) (by simp [results, Try.results16, go_sem, d0, d1]) rfl ?_
      refine ⟨A', c', B', d', ?_, ?_, ?_, F3⟩
      · rw [hres.out]
        show _ = Ending.returned (.tuple #[.agg #[.slice A' (unpackT ⟨(tt : Int), (nn : Int), rows, of, gotos, to⟩).acts.length c', .slice B' (unpackT ⟨(tt : Int), (nn : Int), rows, of, gotos, to⟩).gots.length d'], .int .i64 0])
        rw [hla.out, hlb.out]
      · rw [hres.out]
        show OwnN w9 w.heap.size 47 43 2 f2 (.slice A' (unpackT ⟨(tt : Int), (nn : Int), rows, of, gotos, to⟩).acts.length c') (unpackT ⟨(tt : Int), (nn : Int), rows, of, gotos, to⟩).acts
        rw [hla.out]
        exact F1
      · rw [hres.out]
        show OwnN w9 w.heap.size 30 3 1 f1 (.slice B' (unpackT ⟨(tt : Int), (nn : Int), rows, of, gotos, to⟩).gots.length d') (unpackT ⟨(tt : Int), (nn : Int), rows, of, gotos, to⟩).gots
        rw [hlb.out]
        exact F2
end Go.Proofs.Ytfldbkioepcghaa
