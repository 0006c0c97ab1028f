/- Walks over the reference: what is packed, written out. -/
import Derived.Test.YtfldbkioepcghaaT19
namespace Go.Proofs.Ytfldbkioepcghaa
open Go.RowKit
set_option linter.unusedVariables false

theorem fill_zero (m : Nat) : (fill 0 m).toArray = Array.replicate m (Value.int .i64 0) := by simp [fill]
theorem fill_all (m : Nat) : fill m m = flat f1 (List.replicate m (-1)) := by rw [flat_rep1]; simp [fill]
theorem fill_set {k m : Nat} (h : k < m) : (fill k m).set k (.int .i64 (-1)) = fill (k + 1) m := by
  obtain ⟨d, rfl⟩ : ∃ d, m = k + 1 + d := ⟨m - k - 1, by omega⟩
  unfold fill
  rw [show k + 1 + d - k = d + 1 by omega, show k + 1 + d - (k + 1) = d by omega, List.set_append_right _ _ (by simp), List.length_replicate, Nat.sub_self, List.replicate_succ, List.set_cons_zero, List.replicate_succ', List.append_assoc]
  rfl

set_option maxHeartbeats 8000000 in
set_option maxRecDepth 100000 in
theorem runpack_any (R O G T : Option Addr) (rn on gn tn rc oc gc tc : Nat) (p : Pk) (w : World) (hp : PkAt w R O G T rn on gn tn p) (hon : on ≤ 1000000) (htn : tn ≤ 1000000) (hrn : rn ≤ 1000000) (hgn : gn ≤ 1000000) :
    Calls Try.prog 17 #[.agg #[.int .i64 p.terms, .int .i64 p.nons, .slice R rn rc, .slice O on oc, .slice G gn gc, .slice T tn tc]] w (UnPost w (unpackE p)) := by
  cases hr : rightP p with
  | false =>
    have hres : Hid (unpackE p = (⟨[], []⟩, 1)) := by show _ = _; unfold unpackE; rw [hr]; rfl
    have b1 : Hid (Below w.heap.size w ((w.alloc (.cells #[.int .i64 p.terms, .int .i64 p.nons, .slice R rn rc, .slice O on oc, .slice G gn gc, .slice T tn tc] 33)).alloc (.cells #[.slice none 0 0, .slice none 0 0] 25))) := ((Below.refl _ _).alloc (Nat.le_refl _) _).alloc (by simp) _
    have R1 : Hid (Row ((w.alloc (.cells #[.int .i64 p.terms, .int .i64 p.nons, .slice R rn rc, .slice O on oc, .slice G gn gc, .slice T tn tc] 33)).alloc (.cells #[.slice none 0 0, .slice none 0 0] 25)) w.heap.size 33 #[.int .i64 p.terms, .int .i64 p.nons, .slice R rn rc, .slice O on oc, .slice G gn gc, .slice T tn tc]) := (Row.new _ _ _).alloc _
    have R2 : Hid (Row ((w.alloc (.cells #[.int .i64 p.terms, .int .i64 p.nons, .slice R rn rc, .slice O on oc, .slice G gn gc, .slice T tn tc] 33)).alloc (.cells #[.slice none 0 0, .slice none 0 0] 25)) (w.heap.size + 1) 25 #[.slice none 0 0, .slice none 0 0]) := by
      have := Row.new (w.alloc (.cells #[.int .i64 p.terms, .int .i64 p.nons, .slice R rn rc, .slice O on oc, .slice G gn gc, .slice T tn tc] 33)) 25 #[.slice none 0 0, .slice none 0 0]
      show Row _ _ _ _
      simpa using this
    have x0 := (R1.out.cell 0).trans (show _ = some (.int .i64 p.terms) from rfl)
    have x1 := (R1.out.cell 1).trans (show _ = some (.int .i64 p.nons) from rfl)
    have x2 := (R1.out.cell 2).trans (show _ = some (.slice R rn rc) from rfl)
    have x3 := (R1.out.cell 3).trans (show _ = some (.slice O on oc) from rfl)
    have x4 := (R1.out.cell 4).trans (show _ = some (.slice G gn gc) from rfl)
    have x5 := (R1.out.cell 5).trans (show _ = some (.slice T tn tc) from rfl)
    have C1 := rright_any R O G T rn on gn tn rc oc gc tc p ((w.alloc (.cells #[.int .i64 p.terms, .int .i64 p.nons, .slice R rn rc, .slice O on oc, .slice G gn gc, .slice T tn tc] 33)).alloc (.cells #[.slice none 0 0, .slice none 0 0] 25)) (hp.below b1.out) hon htn hrn hgn
    rw [hr] at C1
    clear hp hr
    go_enter Try.func17, Try.ntmps17
    go_wp2_with fail
    clear x0 x1 x2 x3 x4 x5
    generalize ((w.alloc (.cells #[.int .i64 p.terms, .int .i64 p.nons, .slice R rn rc, .slice O on oc, .slice G gn gc, .slice T tn tc] 33)).alloc (.cells #[.slice none 0 0, .slice none 0 0] 25)) = w1 at *
    refine C1.mono ?_
    rintro e w2 ⟨rfl, hb2⟩
    have b2 := hide (below_both b1.out hb2 b1.out.size)
    have R2' := hide (R2.out.below hb2 R2.out.lt)
    have y0 := (R2'.out.cell 0).trans (show _ = some (.slice none 0 0) from rfl)
    have y1 := (R2'.out.cell 1).trans (show _ = some (.slice none 0 0) from rfl)
    have fz0 := R2'.out.frozen 0
    have fz1 := R2'.out.frozen 1
    clear C1 hb2
    go_wp2_with fail
    have R3 := (R2'.out.put 0 (.slice none 0 0)).put 1 (.slice none 0 0)
    have F3 : Below w.heap.size w ((w2.setCell ⟨w.heap.size + 1, 0, none⟩ (.slice none 0 0)).setCell ⟨w.heap.size + 1, 1, none⟩ (.slice none 0 0)) := (b2.out.setCell (by simp) _).setCell (by simp) _
    have d0 := (R3.cell 0).trans (show _ = some (.slice none 0 0) from rfl)
    have d1 := (R3.cell 1).trans (show _ = some (.slice none 0 0) from rfl)
    generalize ((w2.setCell ⟨w.heap.size + 1, 0, none⟩ (.slice none 0 0)).setCell ⟨w.heap.size + 1, 1, none⟩ (.slice none 0 0)) = w9 at *
    refine bodyPost_ret (v := .tuple #[.agg #[.slice none 0 0, .slice none 0 0], .int .i64 1]) (by simp [results, Try.results17, go_sem, d0, d1]) rfl ?_
    exact ⟨none, 0, none, 0, by rw [hres.out]; rfl, by rw [hres.out]; exact OwnN.nil _ _ _ _ _ _, by rw [hres.out]; exact OwnN.nil _ _ _ _ _ _, F3⟩
  | true =>
  obtain ⟨q1, q2, q3, q4, q5, q6, q7, q8, q9, qo, qt, qr, qg⟩ := right_parts hr
  have hres : Hid (unpackE p = (unpackT p, 0)) := by show _ = _; unfold unpackE; rw [hr]; rfl
  obtain ⟨terms, nons, rows, of, gotos, to⟩ := p
  obtain ⟨tt, rfl⟩ := Int.eq_ofNat_of_zero_le (show 0 ≤ terms from q1)
  obtain ⟨nn, rfl⟩ := Int.eq_ofNat_of_zero_le (show 0 ≤ nons from q3)
  have ht24 : tt ≤ 24 := by simp only at q2; omega
  have hn16 : nn ≤ 16 := by simp only at q4; omega
  have hro : Hid (numsL of (rows.length : Int) = true) := qo
  have hto : Hid (numsL to (gotos.length : Int) = true) := qt
  have hrr : Hid (rows.all (rowOk (tt : Int)) = true) := qr
  have hgg : Hid (gotos.all (gotOk (nn : Int)) = true) := qg
  have h300 : Hid (of.length ≤ 300) := q6
  have htl : Hid (to.length = of.length) := q7
  have hr' := hide hr
  have b1 : Hid (Below w.heap.size w ((w.alloc (.cells #[.int .i64 (tt : Int), .int .i64 (nn : Int), .slice R rn rc, .slice O on oc, .slice G gn gc, .slice T tn tc] 33)).alloc (.cells #[.slice none 0 0, .slice none 0 0] 25))) := ((Below.refl _ _).alloc (Nat.le_refl _) _).alloc (by simp) _
  have R1 : Hid (Row ((w.alloc (.cells #[.int .i64 (tt : Int), .int .i64 (nn : Int), .slice R rn rc, .slice O on oc, .slice G gn gc, .slice T tn tc] 33)).alloc (.cells #[.slice none 0 0, .slice none 0 0] 25)) w.heap.size 33 #[.int .i64 (tt : Int), .int .i64 (nn : Int), .slice R rn rc, .slice O on oc, .slice G gn gc, .slice T tn tc]) := (Row.new _ _ _).alloc _
  have R2 : Hid (Row ((w.alloc (.cells #[.int .i64 (tt : Int), .int .i64 (nn : Int), .slice R rn rc, .slice O on oc, .slice G gn gc, .slice T tn tc] 33)).alloc (.cells #[.slice none 0 0, .slice none 0 0] 25)) (w.heap.size + 1) 25 #[.slice none 0 0, .slice none 0 0]) := by
    have := Row.new (w.alloc (.cells #[.int .i64 (tt : Int), .int .i64 (nn : Int), .slice R rn rc, .slice O on oc, .slice G gn gc, .slice T tn tc] 33)) 25 #[.slice none 0 0, .slice none 0 0]
    show Row _ _ _ _
    simpa using this
  have x0 := (R1.out.cell 0).trans (show _ = some (.int .i64 (tt : Int)) from rfl)
  have x1 := (R1.out.cell 1).trans (show _ = some (.int .i64 (nn : Int)) from rfl)
  have x2 := (R1.out.cell 2).trans (show _ = some (.slice R rn rc) from rfl)
  have x3 := (R1.out.cell 3).trans (show _ = some (.slice O on oc) from rfl)
  have x4 := (R1.out.cell 4).trans (show _ = some (.slice G gn gc) from rfl)
  have x5 := (R1.out.cell 5).trans (show _ = some (.slice T tn tc) from rfl)
  have C1 := rright_any R O G T rn on gn tn rc oc gc tc ⟨(tt : Int), (nn : Int), rows, of, gotos, to⟩ ((w.alloc (.cells #[.int .i64 (tt : Int), .int .i64 (nn : Int), .slice R rn rc, .slice O on oc, .slice G gn gc, .slice T tn tc] 33)).alloc (.cells #[.slice none 0 0, .slice none 0 0] 25)) (hp.below b1.out) hon htn hrn hgn
  rw [hr] at C1
  have HP := hide hp
  have lo : Hid (of.length = on) := hp.of.1
  have lt : Hid (to.length = tn) := hp.to.1
  have lr : Hid (rows.length = rn) := hp.rows.1
  have lg : Hid (gotos.length = gn) := hp.gotos.1
  clear hp hr q1 q2 q3 q4 q5 q6 q7 q8 q9 qo qt qr qg
  go_enter Try.func17, Try.ntmps17
  go_wp2_with fail
  clear x0 x1 x2 x3 x4 x5
  generalize ((w.alloc (.cells #[.int .i64 (tt : Int), .int .i64 (nn : Int), .slice R rn rc, .slice O on oc, .slice G gn gc, .slice T tn tc] 33)).alloc (.cells #[.slice none 0 0, .slice none 0 0] 25)) = w1 at *
  refine C1.mono ?_
  rintro e w2 ⟨rfl, hb2⟩
  have b2 : Hid (Below w.heap.size w (w2.alloc (.cells #[.slice none 0 0, .slice none 0 0] 25))) := (below_both b1.out hb2 b1.out.size).alloc (Nat.le_trans b1.out.size hb2.size) _
  have R1' := hide ((R1.out.below hb2 R1.out.lt).alloc (.cells #[.slice none 0 0, .slice none 0 0] 25))
  have R2' := hide ((R2.out.below hb2 R2.out.lt).alloc (.cells #[.slice none 0 0, .slice none 0 0] 25))
  have R3' : Hid (Row (w2.alloc (.cells #[.slice none 0 0, .slice none 0 0] 25)) w2.heap.size 25 #[.slice none 0 0, .slice none 0 0]) := Row.new _ _ _
  have htb : Hid (w.heap.size + 1 < w2.heap.size) := (R2.out.below hb2 R2.out.lt).lt
  clear C1 hb2 R1 R2 b1
  go_wp2_with fail
  generalize w2.alloc (.cells #[.slice none 0 0, .slice none 0 0] 25) = w3 at *
  generalize w2.heap.size = tb at *
  go_loopw [5] (fun v wr => ∃ (i : Nat) (A' B' : Option Addr) (c' d' : Nat), i ≤ on ∧ v = .int .i64 i ∧ Hid (Row wr w.heap.size 33 #[.int .i64 (tt : Int), .int .i64 (nn : Int), .slice R rn rc, .slice O on oc, .slice G gn gc, .slice T tn tc]) ∧ Hid (Row wr (w.heap.size + 1) 25 #[.slice none 0 0, .slice none 0 0]) ∧ Hid (Row wr tb 25 #[.slice A' i c', .slice B' i d']) ∧
    Hid (OwnN wr w.heap.size 47 43 2 f2 (.slice A' i c') ((unpackT ⟨(tt : Int), (nn : Int), rows, of, gotos, to⟩).acts.take i)) ∧ Hid (OwnN wr w.heap.size 30 3 1 f1 (.slice B' i d') ((unpackT ⟨(tt : Int), (nn : Int), rows, of, gotos, to⟩).gots.take i)) ∧ Hid (Below w.heap.size w wr)) (fun v _ => on - (intOf v).toNat)
  case atStart => exact ⟨0, none, none, 0, 0, by omega, rfl, R1', R2', R3', OwnN.nil _ _ _ _ _ _, OwnN.nil _ _ _ _ _ _, b2⟩
  case round =>
    clear R1' R2' R3' b2
    obtain ⟨i, A', B', c', d', hi, rfl, Q1, Q0, Q2, N1, N2, hb⟩ := hrel
    have x3 := (Q1.out.cell 3).trans (show _ = some (.slice O on oc) from rfl)
    generalize wr = wo at *
    by_cases hlt : i < on
    · have t1 : decide ((i : Int) < (on : Int)) = true := by simp; omega
      have hltp : (i : Int) < (on : Int) := by omega
      obtain ⟨b, o, z, hO, hz, k0⟩ := (HP.out.of.below hb.out).at1 hlt
      have hzb := nums_at hro.out hz
      obtain ⟨q, rfl⟩ := Int.eq_ofNat_of_zero_le hzb.1
      have hql : q < rn := by have := lr.out; omega
      obtain ⟨b', o', row, Ar, cr, hR, hrow, k1, k2, k3, k4⟩ := (HP.out.rows.below hb.out).at_ hql
      obtain ⟨b3, o3, z3, hT, hz3, j0⟩ := (HP.out.to.below hb.out).at1 (show i < tn by have h1 := lo.out; have h2 := lt.out; have h3 := htl.out; omega)
      have hzb3 := nums_at hto.out hz3
      obtain ⟨q', rfl⟩ := Int.eq_ofNat_of_zero_le hzb3.1
      have hql' : q' < gn := by have := lg.out; omega
      obtain ⟨b4, o4, grow, Ag, cg, hG, hgrow, j1, j2, j3, j4⟩ := (HP.out.gotos.below hb.out).at_ hql'
      subst hO hR hT hG
      have hA : Hid ((unpackT ⟨(tt : Int), (nn : Int), rows, of, gotos, to⟩).acts.take i ++ [uRow (tt : Int) row] = (unpackT ⟨(tt : Int), (nn : Int), rows, of, gotos, to⟩).acts.take (i + 1)) := by
        show _ = _
        rw [List.take_add_one]
        congr 1
        simp [unpackT, hz, rowAt, hrow]
      have hB : Hid ((unpackT ⟨(tt : Int), (nn : Int), rows, of, gotos, to⟩).gots.take i ++ [uGot (nn : Int) grow] = (unpackT ⟨(tt : Int), (nn : Int), rows, of, gotos, to⟩).gots.take (i + 1)) := by
        show _ = _
        rw [List.take_add_one]
        congr 1
        simp [unpackT, hz3, rowAt, hgrow]
      have hok : Hid (rowOk (tt : Int) row = true) := List.all_eq_true.1 hrr.out row (List.mem_of_getElem? hrow)
      have gok : Hid (gotOk (nn : Int) grow = true) := List.all_eq_true.1 hgg.out grow (List.mem_of_getElem? hgrow)
      have hrl : row.length ≤ 30 := rowOk_len hok.out (by omega) (by omega)
      have hgl : grow.length ≤ 30 := gotOk_len gok.out (by omega) (by omega)
      have k0H := hide k0
      have k1H := hide k1
      have j0H := hide j0
      have j1H := hide j1
      clear hz hz3 hrow hgrow hzb hzb3 k0 k1 j0 j1
      have hqlp : (q : Int) < (rn : Int) := by omega
      have hqlp' : (q' : Int) < (gn : Int) := by omega
      have hitn : (i : Int) < (tn : Int) := by have h1 := lo.out; have h2 := lt.out; have h3 := htl.out; omega
      have x0 := (Q1.out.cell 0).trans (show _ = some (.int .i64 (tt : Int)) from rfl)
      have x1 := ((Q1.out.alloc (.cells (flat f2 (List.replicate (tt + 1) ((0, 0) : Int × Int))).toArray 43)).cell 1).trans (show _ = some (.int .i64 (nn : Int)) from rfl)
      have hmk : (Instr.makeSlice 47 (.int .i64 ((tt : Int) + 1)) (.int .i64 ((tt : Int) + 1))).run Try.prog wo = .ok (.slice (some ⟨wo.heap.size, 0, none⟩) (tt + 1) (tt + 1)) (wo.alloc (.cells (flat f2 (List.replicate (tt + 1) ((0, 0) : Int × Int))).toArray 43)) := make47 (tt + 1) (by omega) wo
      have hmk2 : (Instr.makeSlice 30 (.int .i64 (nn : Int)) (.int .i64 (nn : Int))).run Try.prog (wo.alloc (.cells (flat f2 (List.replicate (tt + 1) ((0, 0) : Int × Int))).toArray 43)) = .ok (.slice (some ⟨wo.heap.size + 1, 0, none⟩) nn nn) ((wo.alloc (.cells (flat f2 (List.replicate (tt + 1) ((0, 0) : Int × Int))).toArray 43)).alloc (.cells (Array.replicate nn (Value.int .i64 0)) 3)) := by
        have := make30 nn hn16 (wo.alloc (.cells (flat f2 (List.replicate (tt + 1) ((0, 0) : Int × Int))).toArray 43))
        rwa [World.size_alloc] at this
      have U0 : Hid (Row ((wo.alloc (.cells (flat f2 (List.replicate (tt + 1) ((0, 0) : Int × Int))).toArray 43)).alloc (.cells (Array.replicate nn (Value.int .i64 0)) 3)) wo.heap.size 43 (flat f2 (uRow (tt : Int) (row.take 0))).toArray) := (Row.new wo 43 (flat f2 (List.replicate (tt + 1) ((0, 0) : Int × Int))).toArray).alloc _
      have G0 : Hid (Row ((wo.alloc (.cells (flat f2 (List.replicate (tt + 1) ((0, 0) : Int × Int))).toArray 43)).alloc (.cells (Array.replicate nn (Value.int .i64 0)) 3)) (wo.heap.size + 1) 3 (fill 0 nn).toArray) := by
        have := Row.new (wo.alloc (.cells (flat f2 (List.replicate (tt + 1) ((0, 0) : Int × Int))).toArray 43)) 3 (Array.replicate nn (Value.int .i64 0))
        rw [World.size_alloc] at this
        show Row _ _ _ _
        rw [fill_zero]
        exact this
      have B0 : Hid (Below wo.heap.size wo ((wo.alloc (.cells (flat f2 (List.replicate (tt + 1) ((0, 0) : Int × Int))).toArray 43)).alloc (.cells (Array.replicate nn (Value.int .i64 0)) 3))) := (below_alloc wo _).alloc (by simp) _
      go_wp2_with fail
      clear hmk hmk2 x0 x1 x3
      generalize ((wo.alloc (.cells (flat f2 (List.replicate (tt + 1) ((0, 0) : Int × Int))).toArray 43)).alloc (.cells (Array.replicate nn (Value.int .i64 0)) 3)) = w6 at *
      go_loopw [8] (fun v wr => ∃ (k : Nat), k ≤ row.length ∧ v = .int .i64 k ∧ Hid (Row wr wo.heap.size 43 (flat f2 (uRow (tt : Int) (row.take k))).toArray) ∧ Hid (Row wr (wo.heap.size + 1) 3 (fill 0 nn).toArray) ∧ Hid (Below wo.heap.size wo wr)) (fun v _ => row.length - (intOf v).toNat)
      case atStart => exact ⟨0, by omega, rfl, U0, G0, B0⟩
      case round =>
        clear U0 G0 B0
        obtain ⟨k, hk, rfl, U, GG, hb6⟩ := hrel
        have hPlt : Hid (wo.heap.size + 1 < wr.heap.size) := GG.out.lt
        by_cases hlk : k < row.length
        · have t2 : decide ((k : Int) < (row.length : Int)) = true := by simp; omega
          have hlkp : (k : Int) < (row.length : Int) := by omega
          go_wp2_with fail
          have E5 : ∀ W, Ext wr W → Below wo.heap.size wo W := fun W hW => below_both hb6.out hW hb6.out.size
          have X0 : ∀ W, Ext wr W → W.cell? ⟨w.heap.size, 2, none⟩ = some (.slice (some ⟨b', o', none⟩) rn rc) := fun W hW => ((E5 W hW).cell Q1.out.lt).trans ((Q1.out.cell 2).trans rfl)
          have X1 : ∀ W, Ext wr W → W.cell? ⟨w.heap.size, 3, none⟩ = some (.slice (some ⟨b, o, none⟩) on oc) := fun W hW => ((E5 W hW).cell Q1.out.lt).trans ((Q1.out.cell 3).trans rfl)
          have X2 : ∀ W, Ext wr W → W.cell? ⟨b, o + i, none⟩ = some (.int .i64 (q : Int)) := fun W hW => ((E5 W hW).cell (cell_lt k0H.out)).trans k0H.out
          have X3 : ∀ W, Ext wr W → W.cell? ⟨b', o' + q, none⟩ = some (.slice Ar row.length cr) := fun W hW => ((E5 W hW).cell (cell_lt k1H.out)).trans k1H.out
          refine wp_region_seq [(0, false), (1, false), (2, false), (3, false), (4, false), (5, false), (6, false), (7, false), (8, false), (9, false), (10, false), (11, false)]
            (by kernel_rfl) (by kernel_rfl) (by kernel_rfl) rfl (by kernel_rfl) (fun _ _ d _ _ h => by cases d <;> exact h) ?_
          simp only [List.map_cons, List.map_nil, List.getElem?_cons_succ, List.getElem?_cons_zero, Option.getD_some]
          iterate 12 (refine wpSeq_take rfl rfl (fun W hW => (by have eX0 := X0 W hW; have eX1 := X1 W hW; have eX2 := X2 W hW; have eX3 := X3 W hW; go_simp; with_reducible rfl)) ?_; simp only [List.setIfInBounds_toArray, List.set_cons_zero, List.set_cons_succ])
          refine wpSeq_nil ?_
          clear X0 X1 X2 X3 E5
          have U1 : Hid (Row wr.drew wo.heap.size 43 (flat f2 (uRow (tt : Int) (row.take k))).toArray) := U
          have G1 : Hid (Row wr.drew (wo.heap.size + 1) 3 (fill 0 nn).toArray) := GG
          have B1 : Hid (Below wo.heap.size wo wr.drew) := hb6.out.drew
          have hPl : Hid (wo.heap.size + 1 < wr.drew.heap.size) := hPlt
          clear U GG hb6 hPlt
          generalize wr.drew = w7 at *
          go_wp2_with fail
          obtain ⟨b5, o5, ⟨x, y1, y2⟩, hAr, hx, e0, e1, e2⟩ := (k2.below B1.out).at3 hlk
          subst hAr
          have hxb := rowOk_at hok.out hx
          obtain ⟨cc, hcc⟩ := Int.eq_ofNat_of_zero_le (show 0 ≤ x from hxb.1)
          subst hcc
          have hct : cc < tt + 1 := by simp only at hxb; omega
          have hctp : (cc : Int) < (tt : Int) + 1 := by omega
          have hX := hide hx
          have E5 : ∀ W, Ext w7 W → Below wo.heap.size wo W := fun W hW => below_both B1.out hW B1.out.size
          have X0 : ∀ W, Ext w7 W → W.cell? ⟨w.heap.size, 2, none⟩ = some (.slice (some ⟨b', o', none⟩) rn rc) := fun W hW => ((E5 W hW).cell Q1.out.lt).trans ((Q1.out.cell 2).trans rfl)
          have X1 : ∀ W, Ext w7 W → W.cell? ⟨w.heap.size, 3, none⟩ = some (.slice (some ⟨b, o, none⟩) on oc) := fun W hW => ((E5 W hW).cell Q1.out.lt).trans ((Q1.out.cell 3).trans rfl)
          have X2 : ∀ W, Ext w7 W → W.cell? ⟨b, o + i, none⟩ = some (.int .i64 (q : Int)) := fun W hW => ((E5 W hW).cell (cell_lt k0H.out)).trans k0H.out
          have X3 : ∀ W, Ext w7 W → W.cell? ⟨b', o' + q, none⟩ = some (.slice (some ⟨b5, o5, none⟩) row.length cr) := fun W hW => ((E5 W hW).cell (cell_lt k1H.out)).trans k1H.out
          have X4 : ∀ W, Ext w7 W → W.cell? ⟨b5, o5 + k * 3, none⟩ = some (.int .i64 (cc : Int)) := fun W hW => (hW.cell (cell_lt e0)).trans e0
          have X5 : ∀ W, Ext w7 W → W.cell? ⟨b5, o5 + k * 3 + 1, none⟩ = some (.int .i64 y1) := fun W hW => (hW.cell (cell_lt e1)).trans e1
          have X6 : ∀ W, Ext w7 W → W.cell? ⟨b5, o5 + k * 3 + 2, none⟩ = some (.int .i64 y2) := fun W hW => (hW.cell (cell_lt e2)).trans e2
          clear hx hxb e0 e1 e2
          refine wp_region_seq [(0, false), (1, false), (2, false), (3, false), (4, false), (5, false), (6, false), (7, false), (8, false), (9, false), (10, false), (11, false), (12, true), (13, true)]
            (by kernel_rfl) (by kernel_rfl) (by kernel_rfl) rfl (by kernel_rfl) (fun _ _ d _ _ h => by cases d <;> exact h) ?_
          simp only [List.map_cons, List.map_nil, List.getElem?_cons_succ, List.getElem?_cons_zero, Option.getD_some]
          iterate 12 (refine wpSeq_take rfl rfl (fun W hW => (by have eX0 := X0 W hW; have eX1 := X1 W hW; have eX2 := X2 W hW; have eX3 := X3 W hW; have eX4 := X4 W hW; have eX5 := X5 W hW; have eX6 := X6 W hW; go_simp; with_reducible rfl)) ?_; simp only [List.setIfInBounds_toArray, List.set_cons_zero, List.set_cons_succ])
          clear X0 X1 X2 X3 E5 X4 X5 X6
          have V0 : Row (w7.drew.alloc (.cells #[.int .i64 0, .int .i64 0, .int .i64 0] 54)) w7.heap.size 54 #[.int .i64 0, .int .i64 0, .int .i64 0] := Row.new _ _ _
          have v0 := (V0.cell 0).trans (show _ = some (.int .i64 0) from rfl)
          have v1 := (V0.cell 1).trans (show _ = some (.int .i64 0) from rfl)
          have v2 := (V0.cell 2).trans (show _ = some (.int .i64 0) from rfl)
          have fv0 := V0.frozen 0
          have fv1 := V0.frozen 1
          have fv2 := V0.frozen 2
          have BA : Below w7.heap.size w7 (w7.drew.alloc (.cells #[.int .i64 0, .int .i64 0, .int .i64 0] 54)) := (Ext.drew w7).alloc (Nat.le_refl _) _
          refine wpSeq_alone rfl (fun K hK => ?_)
          go_wp2_with fail
          refine hK _ _ w7 (Ext.refl _) BA ?_
          clear hK K
          refine wpSeq_alone rfl (fun K hK => ?_)
          go_wp2_with fail
          have BS : Below w7.heap.size w7 (w7.alloc (.cells #[.int .i64 (cc : Int), .int .i64 y1, .int .i64 y2] 54)).drew := (below_alloc w7 _).drew
          refine hK _ _ w7 (Ext.refl _) BS ?_
          clear hK K
          refine wpSeq_nil ?_
          have V : Hid (Row (w7.alloc (.cells #[.int .i64 (cc : Int), .int .i64 y1, .int .i64 y2] 54)).drew w7.heap.size 54 #[.int .i64 (cc : Int), .int .i64 y1, .int .i64 y2]) := Row.new w7 _ _
          have UaH : Hid (Row (w7.alloc (.cells #[.int .i64 (cc : Int), .int .i64 y1, .int .i64 y2] 54)).drew wo.heap.size 43 (flat f2 (uRow (tt : Int) (row.take k))).toArray) := Row.below (w := w7) U1.out BS (by have := hPl.out; omega)
          have GaH : Hid (Row (w7.alloc (.cells #[.int .i64 (cc : Int), .int .i64 y1, .int .i64 y2] 54)).drew (wo.heap.size + 1) 3 (fill 0 nn).toArray) := Row.below (w := w7) G1.out BS hPl.out
          have BH : Hid (Below wo.heap.size wo (w7.alloc (.cells #[.int .i64 (cc : Int), .int .i64 y1, .int .i64 y2] 54)).drew) := below_both B1.out BS B1.out.size
          clear V0 BA BS v0 fv0 v1 fv1 v2 fv2 U1 G1 B1
          generalize (w7.alloc (.cells #[.int .i64 (cc : Int), .int .i64 y1, .int .i64 y2] 54)).drew = w8 at *
          generalize w7.heap.size = pv at *
          have v0 := (V.out.cell 0).trans (show _ = some (.int .i64 (cc : Int)) from rfl)
          have v1 := (V.out.cell 1).trans (show _ = some (.int .i64 y1) from rfl)
          have v2 := (V.out.cell 2).trans (show _ = some (.int .i64 y2) from rfl)
          have hul : (flat f2 (uRow (tt : Int) (row.take k))).length = (tt + 1) * 2 := by rw [flat_len k2L, uRow_len]; simp
          obtain ⟨s0, hs0⟩ : ∃ s0, (flat f2 (uRow (tt : Int) (row.take k))).toArray[cc * 2]? = some s0 := ⟨_, by rw [List.getElem?_toArray]; exact List.getElem?_eq_getElem (by omega)⟩
          obtain ⟨s1, hs1⟩ : ∃ s1, (flat f2 (uRow (tt : Int) (row.take k))).toArray[cc * 2 + 1]? = some s1 := ⟨_, by rw [List.getElem?_toArray]; exact List.getElem?_eq_getElem (by omega)⟩
          have u0 := (UaH.out.cell (cc * 2)).trans hs0
          have u1 := (UaH.out.cell (cc * 2 + 1)).trans hs1
          have g0 := UaH.out.frozen (cc * 2)
          have g1 := UaH.out.frozen (cc * 2 + 1)
          clear hs0 hs1 hul
          go_wp2_with fail
          have harr : (((flat f2 (uRow (tt : Int) (row.take k))).toArray.setIfInBounds (cc * 2) (.int .i64 y1)).setIfInBounds (cc * 2 + 1) (.int .i64 y2)) = (flat f2 (uRow (tt : Int) (row.take (k + 1)))).toArray := by
            rw [List.setIfInBounds_toArray, List.setIfInBounds_toArray, flat_set2 _ cc (y1, y2), ← uRow_step _ _ hX.out]
          have U' := (UaH.out.put (cc * 2) (.int .i64 y1)).put (cc * 2 + 1) (.int .i64 y2)
          rw [harr] at U'
          have G' := (GaH.out.far (p := ⟨wo.heap.size, cc * 2, none⟩) (by simp) (.int .i64 y1)).far (p := ⟨wo.heap.size, cc * 2 + 1, none⟩) (by simp) (.int .i64 y2)
          exact ⟨⟨k + 1, by omega, by go_num, U', G', (BH.out.setCell (Nat.le_refl _) _).setCell (Nat.le_refl _) _⟩, by simp [intOf]; omega⟩
        · have t2 : decide ((k : Int) < (row.length : Int)) = false := by simp; omega
          have hlkp : ¬ (k : Int) < (row.length : Int) := by omega
          go_wp2_with fail
          have E5 : ∀ W, Ext wr W → Below wo.heap.size wo W := fun W hW => below_both hb6.out hW hb6.out.size
          have X0 : ∀ W, Ext wr W → W.cell? ⟨w.heap.size, 2, none⟩ = some (.slice (some ⟨b', o', none⟩) rn rc) := fun W hW => ((E5 W hW).cell Q1.out.lt).trans ((Q1.out.cell 2).trans rfl)
          have X1 : ∀ W, Ext wr W → W.cell? ⟨w.heap.size, 3, none⟩ = some (.slice (some ⟨b, o, none⟩) on oc) := fun W hW => ((E5 W hW).cell Q1.out.lt).trans ((Q1.out.cell 3).trans rfl)
          have X2 : ∀ W, Ext wr W → W.cell? ⟨b, o + i, none⟩ = some (.int .i64 (q : Int)) := fun W hW => ((E5 W hW).cell (cell_lt k0H.out)).trans k0H.out
          have X3 : ∀ W, Ext wr W → W.cell? ⟨b', o' + q, none⟩ = some (.slice Ar row.length cr) := fun W hW => ((E5 W hW).cell (cell_lt k1H.out)).trans k1H.out
          refine wp_region_seq [(0, false), (1, false), (2, false), (3, false), (4, false), (5, false), (6, false), (7, false), (8, false), (9, false), (10, false), (11, false)]
            (by kernel_rfl) (by kernel_rfl) (by kernel_rfl) rfl (by kernel_rfl) (fun _ _ d _ _ h => by cases d <;> exact h) ?_
          simp only [List.map_cons, List.map_nil, List.getElem?_cons_succ, List.getElem?_cons_zero, Option.getD_some]
          iterate 12 (refine wpSeq_take rfl rfl (fun W hW => (by have eX0 := X0 W hW; have eX1 := X1 W hW; have eX2 := X2 W hW; have eX3 := X3 W hW; go_simp; with_reducible rfl)) ?_; simp only [List.setIfInBounds_toArray, List.set_cons_zero, List.set_cons_succ])
          refine wpSeq_nil ?_
          clear X0 X1 X2 X3 E5
          have U0 : Hid (Row wr.drew wo.heap.size 43 (flat f2 (uRow (tt : Int) row)).toArray) := by
            have := U.out
            rwa [show row.take k = row from List.take_of_length_le (by omega)] at this
          have G0 : Hid (Row wr.drew (wo.heap.size + 1) 3 (fill 0 nn).toArray) := GG
          have B0 : Hid (Below wo.heap.size wo wr.drew) := hb6.out.drew
          clear U GG hb6 hPlt hlk
          generalize wr.drew = w7 at *
          go_wp2_with fail
          clear t2 hlkp
          go_loopw [10] (fun v wr => ∃ (k : Nat), k ≤ nn ∧ v = .int .i64 k ∧ Hid (Row wr wo.heap.size 43 (flat f2 (uRow (tt : Int) row)).toArray) ∧ Hid (Row wr (wo.heap.size + 1) 3 (fill k nn).toArray) ∧ Hid (Below wo.heap.size wo wr)) (fun v _ => nn - (intOf v).toNat)
          case atStart => exact ⟨0, by omega, rfl, U0, G0, B0⟩
          case round =>
            clear U0 G0 B0 hk
            obtain ⟨k, hk, rfl, U, GG, hb6⟩ := hrel
            by_cases hlk : k < nn
            · have t2 : decide ((k : Int) < (nn : Int)) = true := by simp; omega
              have hlkp : (k : Int) < (nn : Int) := by omega
              obtain ⟨s0, hs0⟩ : ∃ s0, (fill k nn).toArray[k]? = some s0 := ⟨_, by rw [List.getElem?_toArray]; exact List.getElem?_eq_getElem (by rw [fill_len hk]; exact hlk)⟩
              have u0 := (GG.out.cell k).trans hs0
              have g0 := GG.out.frozen k
              clear hs0
              go_wp2_with fail
              have G' := GG.out.put k (.int .i64 (-1))
              rw [List.setIfInBounds_toArray, fill_set hlk] at G'
              have U' := U.out.far (p := ⟨wo.heap.size + 1, k, none⟩) (by simp) (.int .i64 (-1))
              exact ⟨⟨k + 1, by omega, by go_num, U', G', hb6.out.setCell (by simp) _⟩, by simp [intOf]; omega⟩
            · have t2 : decide ((k : Int) < (nn : Int)) = false := by simp; omega
              have U0 := U
              have G0 : Hid (Row wr (wo.heap.size + 1) 3 (flat f1 (uGot (nn : Int) (grow.take 0))).toArray) := by
                have := GG.out
                rw [show k = nn by omega, fill_all] at this
                exact this
              have B0 := hb6
              clear GG U hb6
              go_wp2_with fail
              clear t2 hlk hk
              generalize wr = w9 at *
              go_loopw [11] (fun v wr => ∃ (k : Nat), k ≤ grow.length ∧ v = .int .i64 k ∧ Hid (Row wr wo.heap.size 43 (flat f2 (uRow (tt : Int) row)).toArray) ∧ Hid (Row wr (wo.heap.size + 1) 3 (flat f1 (uGot (nn : Int) (grow.take k))).toArray) ∧ Hid (Below wo.heap.size wo wr)) (fun v _ => grow.length - (intOf v).toNat)
              case atStart => exact ⟨0, by omega, rfl, U0, G0, B0⟩
              case round =>
                clear U0 G0 B0
                obtain ⟨k, hk, rfl, U, GG, hb6⟩ := hrel
                have hPlt : Hid (wo.heap.size + 1 < wr.heap.size) := GG.out.lt
                by_cases hlk : k < grow.length
                · have t2 : decide ((k : Int) < (grow.length : Int)) = true := by simp; omega
                  have hlkp : (k : Int) < (grow.length : Int) := by omega
                  go_wp2_with fail
                  have E5 : ∀ W, Ext wr W → Below wo.heap.size wo W := fun W hW => below_both hb6.out hW hb6.out.size
                  have X0 : ∀ W, Ext wr W → W.cell? ⟨w.heap.size, 4, none⟩ = some (.slice (some ⟨b4, o4, none⟩) gn gc) := fun W hW => ((E5 W hW).cell Q1.out.lt).trans ((Q1.out.cell 4).trans rfl)
                  have X1 : ∀ W, Ext wr W → W.cell? ⟨w.heap.size, 5, none⟩ = some (.slice (some ⟨b3, o3, none⟩) tn tc) := fun W hW => ((E5 W hW).cell Q1.out.lt).trans ((Q1.out.cell 5).trans rfl)
                  have X2 : ∀ W, Ext wr W → W.cell? ⟨b3, o3 + i, none⟩ = some (.int .i64 (q' : Int)) := fun W hW => ((E5 W hW).cell (cell_lt j0H.out)).trans j0H.out
                  have X3 : ∀ W, Ext wr W → W.cell? ⟨b4, o4 + q', none⟩ = some (.slice Ag grow.length cg) := fun W hW => ((E5 W hW).cell (cell_lt j1H.out)).trans j1H.out
                  refine wp_region_seq [(0, false), (1, false), (2, false), (3, false), (4, false), (5, false), (6, false), (7, false), (8, false), (9, false), (10, false), (11, false)]
                    (by kernel_rfl) (by kernel_rfl) (by kernel_rfl) rfl (by kernel_rfl) (fun _ _ d _ _ h => by cases d <;> exact h) ?_
                  simp only [List.map_cons, List.map_nil, List.getElem?_cons_succ, List.getElem?_cons_zero, Option.getD_some]
                  iterate 12 (refine wpSeq_take rfl rfl (fun W hW => (by have eX0 := X0 W hW; have eX1 := X1 W hW; have eX2 := X2 W hW; have eX3 := X3 W hW; go_simp; with_reducible rfl)) ?_; simp only [List.setIfInBounds_toArray, List.set_cons_zero, List.set_cons_succ])
                  refine wpSeq_nil ?_
                  clear X0 X1 X2 X3 E5
                  have U1 : Hid (Row wr.drew wo.heap.size 43 (flat f2 (uRow (tt : Int) row)).toArray) := U
                  have G1 : Hid (Row wr.drew (wo.heap.size + 1) 3 (flat f1 (uGot (nn : Int) (grow.take k))).toArray) := GG
                  have B1 : Hid (Below wo.heap.size wo wr.drew) := hb6.out.drew
                  have hPl : Hid (wo.heap.size + 1 < wr.drew.heap.size) := hPlt
                  clear U GG hb6 hPlt
                  generalize wr.drew = w7 at *
                  go_wp2_with fail
                  obtain ⟨b5, o5, ⟨x, y⟩, hAr, hx, e0, e1⟩ := (j2.below B1.out).at2 hlk
                  subst hAr
                  have hxb := gotOk_at gok.out hx
                  obtain ⟨cc, hcc⟩ := Int.eq_ofNat_of_zero_le (show 0 ≤ x from hxb.1)
                  subst hcc
                  have hct : cc < nn := by simp only at hxb; omega
                  have hctp : (cc : Int) < (nn : Int) := by omega
                  have hX := hide hx
                  have E5 : ∀ W, Ext w7 W → Below wo.heap.size wo W := fun W hW => below_both B1.out hW B1.out.size
                  have X0 : ∀ W, Ext w7 W → W.cell? ⟨w.heap.size, 4, none⟩ = some (.slice (some ⟨b4, o4, none⟩) gn gc) := fun W hW => ((E5 W hW).cell Q1.out.lt).trans ((Q1.out.cell 4).trans rfl)
                  have X1 : ∀ W, Ext w7 W → W.cell? ⟨w.heap.size, 5, none⟩ = some (.slice (some ⟨b3, o3, none⟩) tn tc) := fun W hW => ((E5 W hW).cell Q1.out.lt).trans ((Q1.out.cell 5).trans rfl)
                  have X2 : ∀ W, Ext w7 W → W.cell? ⟨b3, o3 + i, none⟩ = some (.int .i64 (q' : Int)) := fun W hW => ((E5 W hW).cell (cell_lt j0H.out)).trans j0H.out
                  have X3 : ∀ W, Ext w7 W → W.cell? ⟨b4, o4 + q', none⟩ = some (.slice (some ⟨b5, o5, none⟩) grow.length cg) := fun W hW => ((E5 W hW).cell (cell_lt j1H.out)).trans j1H.out
                  have X4 : ∀ W, Ext w7 W → W.cell? ⟨b5, o5 + k * 2, none⟩ = some (.int .i64 (cc : Int)) := fun W hW => (hW.cell (cell_lt e0)).trans e0
                  have X5 : ∀ W, Ext w7 W → W.cell? ⟨b5, o5 + k * 2 + 1, none⟩ = some (.int .i64 y) := fun W hW => (hW.cell (cell_lt e1)).trans e1
                  clear hx hxb e0 e1
                  refine wp_region_seq [(0, false), (1, false), (2, false), (3, false), (4, false), (5, false), (6, false), (7, false), (8, false), (9, false), (10, false), (11, false), (12, true), (13, true)]
                    (by kernel_rfl) (by kernel_rfl) (by kernel_rfl) rfl (by kernel_rfl) (fun _ _ d _ _ h => by cases d <;> exact h) ?_
                  simp only [List.map_cons, List.map_nil, List.getElem?_cons_succ, List.getElem?_cons_zero, Option.getD_some]
                  iterate 12 (refine wpSeq_take rfl rfl (fun W hW => (by have eX0 := X0 W hW; have eX1 := X1 W hW; have eX2 := X2 W hW; have eX3 := X3 W hW; have eX4 := X4 W hW; have eX5 := X5 W hW; go_simp; with_reducible rfl)) ?_; simp only [List.setIfInBounds_toArray, List.set_cons_zero, List.set_cons_succ])
                  clear X0 X1 X2 X3 E5 X4 X5
                  have V0 : Row (w7.drew.alloc (.cells #[.int .i64 0, .int .i64 0] 59)) w7.heap.size 59 #[.int .i64 0, .int .i64 0] := Row.new _ _ _
                  have v0 := (V0.cell 0).trans (show _ = some (.int .i64 0) from rfl)
                  have v1 := (V0.cell 1).trans (show _ = some (.int .i64 0) from rfl)
                  have fv0 := V0.frozen 0
                  have fv1 := V0.frozen 1
                  have BA : Below w7.heap.size w7 (w7.drew.alloc (.cells #[.int .i64 0, .int .i64 0] 59)) := (Ext.drew w7).alloc (Nat.le_refl _) _
                  refine wpSeq_alone rfl (fun K hK => ?_)
                  go_wp2_with fail
                  refine hK _ _ w7 (Ext.refl _) BA ?_
                  clear hK K
                  refine wpSeq_alone rfl (fun K hK => ?_)
                  go_wp2_with fail
                  have BS : Below w7.heap.size w7 (w7.alloc (.cells #[.int .i64 (cc : Int), .int .i64 y] 59)).drew := (below_alloc w7 _).drew
                  refine hK _ _ w7 (Ext.refl _) BS ?_
                  clear hK K
                  refine wpSeq_nil ?_
                  have V : Hid (Row (w7.alloc (.cells #[.int .i64 (cc : Int), .int .i64 y] 59)).drew w7.heap.size 59 #[.int .i64 (cc : Int), .int .i64 y]) := Row.new w7 _ _
                  have UaH : Hid (Row (w7.alloc (.cells #[.int .i64 (cc : Int), .int .i64 y] 59)).drew wo.heap.size 43 (flat f2 (uRow (tt : Int) row)).toArray) := Row.below (w := w7) U1.out BS (by have := hPl.out; omega)
                  have GaH : Hid (Row (w7.alloc (.cells #[.int .i64 (cc : Int), .int .i64 y] 59)).drew (wo.heap.size + 1) 3 (flat f1 (uGot (nn : Int) (grow.take k))).toArray) := Row.below (w := w7) G1.out BS hPl.out
                  have BH : Hid (Below wo.heap.size wo (w7.alloc (.cells #[.int .i64 (cc : Int), .int .i64 y] 59)).drew) := below_both B1.out BS B1.out.size
                  clear V0 BA BS v0 fv0 v1 fv1 U1 G1 B1
                  generalize (w7.alloc (.cells #[.int .i64 (cc : Int), .int .i64 y] 59)).drew = w8 at *
                  generalize w7.heap.size = pv at *
                  have v0 := (V.out.cell 0).trans (show _ = some (.int .i64 (cc : Int)) from rfl)
                  have v1 := (V.out.cell 1).trans (show _ = some (.int .i64 y) from rfl)
                  have hul : (flat f1 (uGot (nn : Int) (grow.take k))).length = nn := by rw [flat_len Ytfldbkioepcghaa.k1, uGot_len]; simp
                  obtain ⟨s0, hs0⟩ : ∃ s0, (flat f1 (uGot (nn : Int) (grow.take k))).toArray[cc]? = some s0 := ⟨_, by rw [List.getElem?_toArray]; exact List.getElem?_eq_getElem (by omega)⟩
                  have u0 := (GaH.out.cell cc).trans hs0
                  have g0 := GaH.out.frozen cc
                  clear hs0 hul
                  go_wp2_with fail
                  have harr : ((flat f1 (uGot (nn : Int) (grow.take k))).toArray.setIfInBounds cc (.int .i64 y)) = (flat f1 (uGot (nn : Int) (grow.take (k + 1)))).toArray := by
                    rw [List.setIfInBounds_toArray, flat_set1 _ cc y, ← uGot_step _ _ hX.out]
                  have G' := GaH.out.put cc (.int .i64 y)
                  rw [harr] at G'
                  have U' := UaH.out.far (p := ⟨wo.heap.size + 1, cc, none⟩) (by simp) (.int .i64 y)
                  exact ⟨⟨k + 1, by omega, by go_num, U', G', BH.out.setCell (by simp) _⟩, by simp [intOf]; omega⟩
                · have t2 : decide ((k : Int) < (grow.length : Int)) = false := by simp; omega
                  have hlkp : ¬ (k : Int) < (grow.length : Int) := by omega
                  go_wp2_with fail
                  have E5 : ∀ W, Ext wr W → Below wo.heap.size wo W := fun W hW => below_both hb6.out hW hb6.out.size
                  have X0 : ∀ W, Ext wr W → W.cell? ⟨w.heap.size, 4, none⟩ = some (.slice (some ⟨b4, o4, none⟩) gn gc) := fun W hW => ((E5 W hW).cell Q1.out.lt).trans ((Q1.out.cell 4).trans rfl)
                  have X1 : ∀ W, Ext wr W → W.cell? ⟨w.heap.size, 5, none⟩ = some (.slice (some ⟨b3, o3, none⟩) tn tc) := fun W hW => ((E5 W hW).cell Q1.out.lt).trans ((Q1.out.cell 5).trans rfl)
                  have X2 : ∀ W, Ext wr W → W.cell? ⟨b3, o3 + i, none⟩ = some (.int .i64 (q' : Int)) := fun W hW => ((E5 W hW).cell (cell_lt j0H.out)).trans j0H.out
                  have X3 : ∀ W, Ext wr W → W.cell? ⟨b4, o4 + q', none⟩ = some (.slice Ag grow.length cg) := fun W hW => ((E5 W hW).cell (cell_lt j1H.out)).trans j1H.out
                  refine wp_region_seq [(0, false), (1, false), (2, false), (3, false), (4, false), (5, false), (6, false), (7, false), (8, false), (9, false), (10, false), (11, false)]
                    (by kernel_rfl) (by kernel_rfl) (by kernel_rfl) rfl (by kernel_rfl) (fun _ _ d _ _ h => by cases d <;> exact h) ?_
                  simp only [List.map_cons, List.map_nil, List.getElem?_cons_succ, List.getElem?_cons_zero, Option.getD_some]
                  iterate 12 (refine wpSeq_take rfl rfl (fun W hW => (by have eX0 := X0 W hW; have eX1 := X1 W hW; have eX2 := X2 W hW; have eX3 := X3 W hW; go_simp; with_reducible rfl)) ?_; simp only [List.setIfInBounds_toArray, List.set_cons_zero, List.set_cons_succ])
                  refine wpSeq_nil ?_
                  clear X0 X1 X2 X3 E5
                  have U5 : Hid (Row wr.drew wo.heap.size 43 (flat f2 (uRow (tt : Int) row)).toArray) := U
                  have G5 : Hid (Row wr.drew (wo.heap.size + 1) 3 (flat f1 (uGot (nn : Int) grow)).toArray) := by
                    have := GG.out
                    rwa [show grow.take k = grow from List.take_of_length_le (by omega)] at this
                  have hb6 : Hid (Below wo.heap.size wo wr.drew) := hb6.out.drew
                  clear U GG hlk hPlt
                  generalize wr.drew = wr at *
                  go_wp2_with fail
                  have n1d := hide (N1.out.below hb6.out.drew)
                  have n2d := hide (N2.out.below hb6.out.drew)
                  have q2d := hide (Q2.out.below hb6.out.drew Q2.out.lt)
                  have q1d := hide (Q1.out.below hb6.out.drew Q1.out.lt)
                  have q0d := hide (Q0.out.below hb6.out.drew Q0.out.lt)
                  have hua : (uRow (tt : Int) row).length = tt + 1 := by rw [uRow_len]; simp
                  have hug : (uGot (nn : Int) grow).length = nn := by rw [uGot_len]; simp
                  have t1d : Hid (InT wr.drew 43 2 f2 (some ⟨wo.heap.size, 0, none⟩) (tt + 1) (uRow (tt : Int) row)) := by
                    have := row_inT (w := wr.drew) Ytfldbkioepcghaa.k2 (show Row wr.drew _ _ _ from U5.out) (by omega)
                    rwa [hua] at this
                  have t2d : Hid (InT wr.drew 3 1 f1 (some ⟨wo.heap.size + 1, 0, none⟩) nn (uGot (nn : Int) grow)) := by
                    have := row_inT (w := wr.drew) Ytfldbkioepcghaa.k1 (show Row wr.drew _ _ _ from G5.out) (by omega)
                    rwa [hug] at this
                  have hLA : ((unpackT ⟨(tt : Int), (nn : Int), rows, of, gotos, to⟩).acts.take i).length = i := by
                    have h1 := lo.out
                    simp [unpackT]; omega
                  have hLB : ((unpackT ⟨(tt : Int), (nn : Int), rows, of, gotos, to⟩).gots.take i).length = i := by
                    have h1 := lo.out; have h2 := lt.out; have h3 := htl.out
                    simp [unpackT]; omega
                  have hbd : Hid (Below w.heap.size w wr.drew) := hb.out.trans (hb6.out.drew.mono hb.out.size)
                  have hDw : Hid (tb < wr.drew.heap.size) := q2d.out.lt
                  have hD : Hid (w.heap.size ≤ wr.drew.heap.size) := hbd.out.size
                  clear N1 N2 Q2 Q1 Q0 hb hb6 U5 G5
                  generalize hA1 : (unpackT ⟨(tt : Int), (nn : Int), rows, of, gotos, to⟩).acts.take i = LA at hA n1d hLA
                  generalize hB1 : (unpackT ⟨(tt : Int), (nn : Int), rows, of, gotos, to⟩).gots.take i = LB at hB n2d hLB
                  clear hA1 hB1
                  generalize hu1 : uRow (tt : Int) row = ua at hA t1d hua
                  generalize hu2 : uGot (nn : Int) grow = ug at hB t2d hug
                  clear hu1 hu2
                  generalize wo.heap.size + 1 = g2 at *
                  have k00 := (q2d.out.cell 0).trans (show _ = some (.slice A' i c') from rfl)
                  have k01 := (q2d.out.cell 1).trans (show _ = some (.slice B' i d') from rfl)
                  have E1 := below_alloc wr.drew (.cells #[.slice (some ⟨wo.heap.size, 0, none⟩) (tt + 1) (tt + 1)] 47)
                  have E2 := below_alloc wr.drew (.cells #[.slice (some ⟨g2, 0, none⟩) nn nn] 30)
                  have E12 := E1.alloc (by simp) (.cells #[.slice (some ⟨g2, 0, none⟩) nn nn] 30)
                  have E21 := E2.alloc (by simp) (.cells #[.slice (some ⟨wo.heap.size, 0, none⟩) (tt + 1) (tt + 1)] 47)
                  have k10 : (wr.alloc (.cells #[.slice (some ⟨wo.heap.size, 0, none⟩) (tt + 1) (tt + 1)] 47)).cell? ⟨tb, 0, none⟩ = some (.slice A' i c') := ((q2d.out.below E1 q2d.out.lt).cell 0).trans rfl
                  have k11 : (wr.alloc (.cells #[.slice (some ⟨wo.heap.size, 0, none⟩) (tt + 1) (tt + 1)] 47)).cell? ⟨tb, 1, none⟩ = some (.slice B' i d') := ((q2d.out.below E1 q2d.out.lt).cell 1).trans rfl
                  have k20 : (wr.alloc (.cells #[.slice (some ⟨g2, 0, none⟩) nn nn] 30)).cell? ⟨tb, 0, none⟩ = some (.slice A' i c') := ((q2d.out.below E2 q2d.out.lt).cell 0).trans rfl
                  have k21 : (wr.alloc (.cells #[.slice (some ⟨g2, 0, none⟩) nn nn] 30)).cell? ⟨tb, 1, none⟩ = some (.slice B' i d') := ((q2d.out.below E2 q2d.out.lt).cell 1).trans rfl
                  have k120 : ((wr.alloc (.cells #[.slice (some ⟨wo.heap.size, 0, none⟩) (tt + 1) (tt + 1)] 47)).alloc (.cells #[.slice (some ⟨g2, 0, none⟩) nn nn] 30)).cell? ⟨tb, 0, none⟩ = some (.slice A' i c') := ((q2d.out.below E12 q2d.out.lt).cell 0).trans rfl
                  have k121 : ((wr.alloc (.cells #[.slice (some ⟨wo.heap.size, 0, none⟩) (tt + 1) (tt + 1)] 47)).alloc (.cells #[.slice (some ⟨g2, 0, none⟩) nn nn] 30)).cell? ⟨tb, 1, none⟩ = some (.slice B' i d') := ((q2d.out.below E12 q2d.out.lt).cell 1).trans rfl
                  have k210 : ((wr.alloc (.cells #[.slice (some ⟨g2, 0, none⟩) nn nn] 30)).alloc (.cells #[.slice (some ⟨wo.heap.size, 0, none⟩) (tt + 1) (tt + 1)] 47)).cell? ⟨tb, 0, none⟩ = some (.slice A' i c') := ((q2d.out.below E21 q2d.out.lt).cell 0).trans rfl
                  have k211 : ((wr.alloc (.cells #[.slice (some ⟨g2, 0, none⟩) nn nn] 30)).alloc (.cells #[.slice (some ⟨wo.heap.size, 0, none⟩) (tt + 1) (tt + 1)] 47)).cell? ⟨tb, 1, none⟩ = some (.slice B' i d') := ((q2d.out.below E21 q2d.out.lt).cell 1).trans rfl
                  have RB12 : Row ((wr.drew.alloc (.cells #[.slice (some ⟨wo.heap.size, 0, none⟩) (tt + 1) (tt + 1)] 47)).alloc (.cells #[.slice (some ⟨g2, 0, none⟩) nn nn] 30)) (wr.heap.size + 1) 30 #[.slice (some ⟨g2, 0, none⟩) nn nn] := by
                    have := Row.new (wr.drew.alloc (.cells #[.slice (some ⟨wo.heap.size, 0, none⟩) (tt + 1) (tt + 1)] 47)) 30 #[.slice (some ⟨g2, 0, none⟩) nn nn]
                    simpa using this
                  have RB21 : Row ((wr.drew.alloc (.cells #[.slice (some ⟨g2, 0, none⟩) nn nn] 30)).alloc (.cells #[.slice (some ⟨wo.heap.size, 0, none⟩) (tt + 1) (tt + 1)] 47)) (wr.heap.size + 1) 47 #[.slice (some ⟨wo.heap.size, 0, none⟩) (tt + 1) (tt + 1)] := by
                    have := Row.new (wr.drew.alloc (.cells #[.slice (some ⟨g2, 0, none⟩) nn nn] 30)) 47 #[.slice (some ⟨wo.heap.size, 0, none⟩) (tt + 1) (tt + 1)]
                    simpa using this
                  go_region_law (first
                    | (refine stepN' ti22 (by decide) w.heap.size (n1d.out.below E1) hua (Row.new wr.drew _ _) (t1d.out.below E1) (by omega) (by omega) (by omega) (Nat.le_trans hD.out E1.size) rfl _ _ rfl rfl rfl ?_; intro Aa ca w5 m1 hb5 hrow5 hg5; obtain ⟨us5, ho5⟩ := (n1d.out.below E1).owns; have m2 := (n2d.out.below E1).grown ho5 hg5 (by decide) (by decide); have s2 := (t2d.out.below E1).grown ho5 hg5 (by decide); have q5 := hrow5 _ _ _ ((q2d.out.below E1 q2d.out.lt)) (by decide); have k5 := (q5.cell 1).trans (show _ = some (.slice B' i d') from rfl); have k5x := ((q5.alloc (.cells #[.slice (some ⟨g2, 0, none⟩) nn nn] 30)).cell 1).trans (show _ = some (.slice B' i d') from rfl); have e5 := (E1.mono hD.out).trans hb5; have p5 := hrow5 _ _ _ (q1d.out.below E1 q1d.out.lt) (by decide); have r5z := hrow5 _ _ _ (q0d.out.below E1 q0d.out.lt) (by decide); clear us5 ho5 hb5 hrow5 hg5)
                    | (refine stepN' ti22 (by decide) w.heap.size (n1d.out.below E12) hua ((Row.new wr.drew _ _).alloc _) (t1d.out.below E12) (by omega) (by omega) (by omega) (Nat.le_trans hD.out E12.size) rfl _ _ rfl rfl rfl ?_; intro Aa ca w5 m1 hb5 hrow5 hg5; obtain ⟨us5, ho5⟩ := (n1d.out.below E12).owns; have m2 := (n2d.out.below E12).grown ho5 hg5 (by decide) (by decide); have s2 := (t2d.out.below E12).grown ho5 hg5 (by decide); have q5 := hrow5 _ _ _ ((q2d.out.below E12 q2d.out.lt)) (by decide); have k5 := (q5.cell 1).trans (show _ = some (.slice B' i d') from rfl); have k5x := ((q5.alloc (.cells #[.slice (some ⟨g2, 0, none⟩) nn nn] 30)).cell 1).trans (show _ = some (.slice B' i d') from rfl); have e5 := (E12.mono hD.out).trans hb5; have r5 := hrow5 _ _ _ RB12 (by decide); have p5 := hrow5 _ _ _ (q1d.out.below E12 q1d.out.lt) (by decide); have r5z := hrow5 _ _ _ (q0d.out.below E12 q0d.out.lt) (by decide); clear us5 ho5 hb5 hrow5 hg5)
                    | (refine stepN' ti22 (by decide) w.heap.size (n1d.out.below E21) hua RB21 (t1d.out.below E21) (by omega) (by omega) (by omega) (Nat.le_trans hD.out E21.size) rfl _ _ rfl rfl rfl ?_; intro Aa ca w5 m1 hb5 hrow5 hg5; obtain ⟨us5, ho5⟩ := (n1d.out.below E21).owns; have m2 := (n2d.out.below E21).grown ho5 hg5 (by decide) (by decide); have s2 := (t2d.out.below E21).grown ho5 hg5 (by decide); have q5 := hrow5 _ _ _ ((q2d.out.below E21 q2d.out.lt)) (by decide); have k5 := (q5.cell 1).trans (show _ = some (.slice B' i d') from rfl); have k5x := ((q5.alloc (.cells #[.slice (some ⟨g2, 0, none⟩) nn nn] 30)).cell 1).trans (show _ = some (.slice B' i d') from rfl); have e5 := (E21.mono hD.out).trans hb5; have r5 := hrow5 _ _ _ ((Row.new wr.drew _ _).alloc _) (by decide); have p5 := hrow5 _ _ _ (q1d.out.below E21 q1d.out.lt) (by decide); have r5z := hrow5 _ _ _ (q0d.out.below E21 q0d.out.lt) (by decide); clear us5 ho5 hb5 hrow5 hg5)
                    | (refine stepN' ti23 (by decide) w.heap.size (m2.below (below_alloc w5 _)) hug (Row.new w5 _ _) (s2.below (below_alloc w5 _)) (by omega) (by omega) (by omega) (Nat.le_trans hD.out (e5.alloc (Nat.le_trans hD.out e5.size) _).size) rfl _ _ rfl rfl rfl ?_; intro Ab cb w7 mm hb7 hrow7 hg7; obtain ⟨us7, ho7⟩ := (m2.below (below_alloc w5 _)).owns; have m1' := (m1.below (below_alloc w5 _)).grown ho7 hg7 (by decide) (by decide); have m2' := mm; have q7 := hrow7 _ _ _ (q5.alloc _) (by decide); have p7 := hrow7 _ _ _ (p5.alloc _) (by decide); have r7z := hrow7 _ _ _ (r5z.alloc _) (by decide); have k70 := (q7.cell 0).trans (show _ = some (.slice A' i c') from rfl); have k71 := (q7.cell 1).trans (show _ = some (.slice B' i d') from rfl); have f70 := q7.frozen 0; have f71 := q7.frozen 1; have e7 := (e5.alloc (Nat.le_trans hD.out e5.size) _).trans hb7; clear us7 ho7 hb7 hrow7 hg7 mm)
                    | (refine stepN' ti23 (by decide) w.heap.size (m2) hug r5 (s2) (by omega) (by omega) (by omega) (Nat.le_trans hD.out e5.size) rfl _ _ rfl rfl rfl ?_; intro Ab cb w7 mm hb7 hrow7 hg7; obtain ⟨us7, ho7⟩ := (m2).owns; have m1' := (m1).grown ho7 hg7 (by decide) (by decide); have m2' := mm; have q7 := hrow7 _ _ _ q5 (by decide); have p7 := hrow7 _ _ _ p5 (by decide); have r7z := hrow7 _ _ _ r5z (by decide); have k70 := (q7.cell 0).trans (show _ = some (.slice A' i c') from rfl); have k71 := (q7.cell 1).trans (show _ = some (.slice B' i d') from rfl); have f70 := q7.frozen 0; have f71 := q7.frozen 1; have e7 := e5.trans hb7; clear us7 ho7 hb7 hrow7 hg7 mm))
                  all_goals (
                    have htb1 := htb.out
                    have S1 : Hid (Row ((w7.setCell ⟨tb, 0, none⟩ (.slice Aa (i + 1) ca)).setCell ⟨tb, 1, none⟩ (.slice Ab (i + 1) cb)) w.heap.size 33 #[.int .i64 (tt : Int), .int .i64 (nn : Int), .slice (some ⟨b', o', none⟩) rn rc, .slice (some ⟨b, o, none⟩) on oc, .slice (some ⟨b4, o4, none⟩) gn gc, .slice (some ⟨b3, o3, none⟩) tn tc]) := (p7.far (by simp; omega) _).far (by simp; omega) _
                    have S0 : Hid (Row ((w7.setCell ⟨tb, 0, none⟩ (.slice Aa (i + 1) ca)).setCell ⟨tb, 1, none⟩ (.slice Ab (i + 1) cb)) (w.heap.size + 1) 25 #[.slice none 0 0, .slice none 0 0]) := (r7z.far (by simp; omega) _).far (by simp; omega) _
                    have S2 : Hid (Row ((w7.setCell ⟨tb, 0, none⟩ (.slice Aa (i + 1) ca)).setCell ⟨tb, 1, none⟩ (.slice Ab (i + 1) cb)) tb 25 #[.slice Aa (i + 1) ca, .slice Ab (i + 1) cb]) := (q7.put 0 (.slice Aa (i + 1) ca)).put 1 (.slice Ab (i + 1) cb)
                    have G1 := (m1'.far (grown_put w7 tb 0 (.slice Aa (i + 1) ca)) q7 (by decide) (by decide)).far (grown_put _ tb 1 (.slice Ab (i + 1) cb)) (q7.put 0 (.slice Aa (i + 1) ca)) (by decide) (by decide)
                    have G2 := (m2'.far (grown_put w7 tb 0 (.slice Aa (i + 1) ca)) q7 (by decide) (by decide)).far (grown_put _ tb 1 (.slice Ab (i + 1) cb)) (q7.put 0 (.slice Aa (i + 1) ca)) (by decide) (by decide)
                    rw [hA.out] at G1
                    rw [hB.out] at G2
                    have SB : Hid (Below w.heap.size w ((w7.setCell ⟨tb, 0, none⟩ (.slice Aa (i + 1) ca)).setCell ⟨tb, 1, none⟩ (.slice Ab (i + 1) cb))) := ((hbd.out.trans e7).setCell (by simp; omega) _).setCell (by simp; omega) _
                    have G1 := hide G1
                    have G2 := hide G2
                    clear m1' m2' q7 p7 r7z k70 k71 f70 f71 e7 htb1
                    generalize ((w7.setCell ⟨tb, 0, none⟩ (.slice Aa (i + 1) ca)).setCell ⟨tb, 1, none⟩ (.slice Ab (i + 1) cb)) = w8 at *
                    go_wp2_with fail
                    exact ⟨⟨i + 1, Aa, Ab, ca, cb, by omega, by go_num, S1, S0, S2, G1, G2, SB⟩, by simp [intOf]; omega⟩)
    · have t1 : decide ((i : Int) < (on : Int)) = false := by simp; omega
      have hltp : ¬ (i : Int) < (on : Int) := by omega
      have hla : (unpackT ⟨(tt : Int), (nn : Int), rows, of, gotos, to⟩).acts.length = on := by have := lo.out; simp [unpackT]; omega
      have hlb : (unpackT ⟨(tt : Int), (nn : Int), rows, of, gotos, to⟩).gots.length = on := by have h1 := lo.out; have h2 := htl.out; simp [unpackT]; omega
      have hion : i = on := by omega
      rw [← hion] at hla hlb
      have N1' : Hid (OwnN wo w.heap.size 47 43 2 f2 (.slice A' i c') (unpackT ⟨(tt : Int), (nn : Int), rows, of, gotos, to⟩).acts) := by
        have := N1.out
        rwa [List.take_of_length_le (by omega)] at this
      have N2' : Hid (OwnN wo w.heap.size 30 3 1 f1 (.slice B' i d') (unpackT ⟨(tt : Int), (nn : Int), rows, of, gotos, to⟩).gots) := by
        have := N2.out
        rwa [List.take_of_length_le (by omega)] at this
      have hla := hide hla
      have hlb := hide hlb
      have y0 := (Q2.out.cell 0).trans (show _ = some (.slice A' i c') from rfl)
      have y1 := (Q2.out.cell 1).trans (show _ = some (.slice B' i d') from rfl)
      have y2 := (Q0.out.cell 0).trans (show _ = some (.slice none 0 0) from rfl)
      have y3 := (Q0.out.cell 1).trans (show _ = some (.slice none 0 0) from rfl)
      have fz0 := Q0.out.frozen 0
      have fz1 := Q0.out.frozen 1
      clear N1 N2 hion
      go_wp2_with fail
      have R3 := (Q0.out.put 0 (.slice A' i c')).put 1 (.slice B' i d')
      have F1 := (N1'.out.far (grown_put wo (w.heap.size + 1) 0 (.slice A' i c')) Q0.out (by decide) (by decide)).far (grown_put _ (w.heap.size + 1) 1 (.slice B' i d')) (Q0.out.put 0 (.slice A' i c')) (by decide) (by decide)
      have F2 := (N2'.out.far (grown_put wo (w.heap.size + 1) 0 (.slice A' i c')) Q0.out (by decide) (by decide)).far (grown_put _ (w.heap.size + 1) 1 (.slice B' i d')) (Q0.out.put 0 (.slice A' i c')) (by decide) (by decide)
      have F3 : Below w.heap.size w ((wo.setCell ⟨w.heap.size + 1, 0, none⟩ (.slice A' i c')).setCell ⟨w.heap.size + 1, 1, none⟩ (.slice B' i d')) := (hb.out.setCell (by simp) _).setCell (by simp) _
      have d0 := (R3.cell 0).trans (show _ = some (.slice A' i c') from rfl)
      have d1 := (R3.cell 1).trans (show _ = some (.slice B' i d') from rfl)
      generalize ((wo.setCell ⟨w.heap.size + 1, 0, none⟩ (.slice A' i c')).setCell ⟨w.heap.size + 1, 1, none⟩ (.slice B' i d')) = w9 at *
      refine bodyPost_ret (v := .tuple #[.agg #[.slice A' i c', .slice B' i d'], .int .i64 0]) (by simp [results, Try.results17, go_sem, d0, d1]) rfl ?_
      refine ⟨A', c', B', d', ?_, ?_, ?_, F3⟩
      · rw [hres.out]
        show _ = Ending.returned (.tuple #[.agg #[.slice A' (unpackT ⟨(tt : Int), (nn : Int), rows, of, gotos, to⟩).acts.length c', .slice B' (unpackT ⟨(tt : Int), (nn : Int), rows, of, gotos, to⟩).gots.length d'], .int .i64 0])
        rw [hla.out, hlb.out]
      · rw [hres.out]
        show OwnN w9 w.heap.size 47 43 2 f2 (.slice A' (unpackT ⟨(tt : Int), (nn : Int), rows, of, gotos, to⟩).acts.length c') (unpackT ⟨(tt : Int), (nn : Int), rows, of, gotos, to⟩).acts
        rw [hla.out]
        exact F1
      · rw [hres.out]
        show OwnN w9 w.heap.size 30 3 1 f1 (.slice B' (unpackT ⟨(tt : Int), (nn : Int), rows, of, gotos, to⟩).gots.length d') (unpackT ⟨(tt : Int), (nn : Int), rows, of, gotos, to⟩).gots
        rw [hlb.out]
        exact F2
end Go.Proofs.Ytfldbkioepcghaa
