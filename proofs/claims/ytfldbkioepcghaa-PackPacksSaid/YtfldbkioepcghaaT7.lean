/- Walks over pack: may a packed table be? -/
import Derived.Test.YtfldbkioepcghaaT6
namespace Go.Proofs.Ytfldbkioepcghaa
open Go.RowKit
set_option linter.unusedVariables false

/-- A packed table that came in. -/
structure PkAt (w : World) (R O G T : Option Addr) (rn on gn tn : Nat) (p : Pk) : Prop where
  rows : Nest w 3 f3 R rn p.rows
  of : In w 1 f1 O on p.of
  gotos : Nest w 2 f2 G gn p.gotos
  to : In w 1 f1 T tn p.to
theorem PkAt.below {w w' : World} {R O G T : Option Addr} {rn on gn tn : Nat} {p : Pk} (h : PkAt w R O G T rn on gn tn p) (hb : Below w.heap.size w w') : PkAt w' R O G T rn on gn tn p := ⟨h.rows.below hb, h.of.below hb, h.gotos.below hb, h.to.below hb⟩
theorem PkOwn.at_ {w : World} {base : Nat} {R O G T : Option Addr} {rc oc gc tc : Nat} {p : Pk} (h : PkOwn w base R O G T rc oc gc tc p) : PkAt w R O G T p.rows.length p.of.length p.gotos.length p.to.length p := by
  obtain ⟨h1, h2, h3, h4⟩ := h
  obtain ⟨A2, c2, e2, i2, _⟩ := h2.form
  obtain ⟨A4, c4, e4, i4, _⟩ := h4.form
  injection e2 with e2 _ _
  injection e4 with e4 _ _
  subst e2 e4
  exact ⟨h1.nest, i2, h3.nest, i4⟩

def rowOk (terms : Int) (r : List (Int × Int × Int)) : Bool := riseL (r.map (·.1)) (terms + 1) (-1) && !r.any pEmpty
def gotOk (nons : Int) (r : List (Int × Int)) : Bool := riseL (r.map (·.1)) nons (-1) && !r.any pNone
def rightP (p : Pk) : Bool :=
  decide (0 ≤ p.terms) && (decide (p.terms ≤ 24) && (decide (0 ≤ p.nons) && (decide (p.nons ≤ 16) &&
  (decide (1 ≤ p.of.length) && (decide (p.of.length ≤ 300) && (decide (p.to.length = p.of.length) && (decide (p.rows.length ≤ 300) && (decide (p.gotos.length ≤ 300) &&
  (numsL p.of (p.rows.length : Int) && (numsL p.to (p.gotos.length : Int) && (p.rows.all (rowOk p.terms) && p.gotos.all (gotOk p.nons))))))))))))

set_option maxHeartbeats 2000000 in
set_option maxRecDepth 100000 in
theorem right_any (R O G T : Option Addr) (rn on gn tn rc oc gc tc : Nat) (p : Pk) (w : World) (hp : PkAt w R O G T rn on gn tn p) (hon : on ≤ 1000000) (htn : tn ≤ 1000000) (hrn : rn ≤ 1000000) (hgn : gn ≤ 1000000) :
    Calls Try.prog 18 #[.agg #[.int .i64 p.terms, .int .i64 p.nons, .slice R rn rc, .slice O on oc, .slice G gn gc, .slice T tn tc]] w (EqPost w (rightP p)) := by
  have b1 := hide (below_alloc w (.cells #[.int .i64 p.terms, .int .i64 p.nons, .slice R rn rc, .slice O on oc, .slice G gn gc, .slice T tn tc] 33))
  have R1 : Hid (Row (w.alloc (.cells #[.int .i64 p.terms, .int .i64 p.nons, .slice R rn rc, .slice O on oc, .slice G gn gc, .slice T tn tc] 33)) w.heap.size 33 #[.int .i64 p.terms, .int .i64 p.nons, .slice R rn rc, .slice O on oc, .slice G gn gc, .slice T tn tc]) := Row.new _ _ _
  have HP := hide hp
  have HP1 := hide (hp.below b1.out)
  have e1 : Hid (p.rows.length = rn) := hp.rows.1
  have e2 : Hid (p.of.length = on) := hp.of.1
  have e3 : Hid (p.gotos.length = gn) := hp.gotos.1
  have e4 : Hid (p.to.length = tn) := hp.to.1
  have c0 := (R1.out.cell 0).trans (show _ = some (.int .i64 p.terms) from rfl)
  have c1 := (R1.out.cell 1).trans (show _ = some (.int .i64 p.nons) from rfl)
  have c2 := (R1.out.cell 2).trans (show _ = some (.slice R rn rc) from rfl)
  have c3 := (R1.out.cell 3).trans (show _ = some (.slice O on oc) from rfl)
  have c4 := (R1.out.cell 4).trans (show _ = some (.slice G gn gc) from rfl)
  have c5 := (R1.out.cell 5).trans (show _ = some (.slice T tn tc) from rfl)
  clear hp
  by_cases h1 : p.terms < 0
  · have th1 : decide (p.terms < 0) = true := by simp; omega
    have hres : Hid (rightP p = false) := by
      show _ = _
      have f1 := e1.out; have f2 := e2.out; have f3 := e3.out; have f4 := e4.out
      unfold rightP
      rw [show (decide (0 ≤ p.terms)) = false from decide_eq_false (by omega)]
      simp
    clear h1
    go_enter Try.func18, Try.ntmps18
    go_wp2_with fail
    go_ret
    exact ⟨by rw [hres.out]; rfl, b1.out⟩
  have th1 : decide (p.terms < 0) = false := by simp; omega
  by_cases h2 : 24 < p.terms
  · have th2 : decide (24 < p.terms) = true := by simp; omega
    have hres : Hid (rightP p = false) := by
      show _ = _
      have f1 := e1.out; have f2 := e2.out; have f3 := e3.out; have f4 := e4.out
      unfold rightP
      rw [show (decide (p.terms ≤ 24)) = false from decide_eq_false (by omega)]
      simp
    clear h2
    go_enter Try.func18, Try.ntmps18
    go_wp2_with fail
    go_ret
    exact ⟨by rw [hres.out]; rfl, b1.out⟩
  have th2 : decide (24 < p.terms) = false := by simp; omega
  by_cases h3 : p.nons < 0
  · have th3 : decide (p.nons < 0) = true := by simp; omega
    have hres : Hid (rightP p = false) := by
      show _ = _
      have f1 := e1.out; have f2 := e2.out; have f3 := e3.out; have f4 := e4.out
      unfold rightP
      rw [show (decide (0 ≤ p.nons)) = false from decide_eq_false (by omega)]
      simp
    clear h3
    go_enter Try.func18, Try.ntmps18
    go_wp2_with fail
    go_ret
    exact ⟨by rw [hres.out]; rfl, b1.out⟩
  have th3 : decide (p.nons < 0) = false := by simp; omega
  by_cases h4 : 16 < p.nons
  · have th4 : decide (16 < p.nons) = true := by simp; omega
    have hres : Hid (rightP p = false) := by
      show _ = _
      have f1 := e1.out; have f2 := e2.out; have f3 := e3.out; have f4 := e4.out
      unfold rightP
      rw [show (decide (p.nons ≤ 16)) = false from decide_eq_false (by omega)]
      simp
    clear h4
    go_enter Try.func18, Try.ntmps18
    go_wp2_with fail
    go_ret
    exact ⟨by rw [hres.out]; rfl, b1.out⟩
  have th4 : decide (16 < p.nons) = false := by simp; omega
  by_cases h5 : on < 1
  · have th5 : decide ((on : Int) < 1) = true := by simp; omega
    have hres : Hid (rightP p = false) := by
      show _ = _
      have f1 := e1.out; have f2 := e2.out; have f3 := e3.out; have f4 := e4.out
      unfold rightP
      rw [show (decide (1 ≤ p.of.length)) = false from decide_eq_false (by omega)]
      simp
    clear h5
    go_enter Try.func18, Try.ntmps18
    go_wp2_with fail
    go_ret
    exact ⟨by rw [hres.out]; rfl, b1.out⟩
  have th5 : decide ((on : Int) < 1) = false := by simp; omega
  by_cases h6 : 300 < on
  · have th6 : decide (300 < (on : Int)) = true := by simp; omega
    have hres : Hid (rightP p = false) := by
      show _ = _
      have f1 := e1.out; have f2 := e2.out; have f3 := e3.out; have f4 := e4.out
      unfold rightP
      rw [show (decide (p.of.length ≤ 300)) = false from decide_eq_false (by omega)]
      simp
    clear h6
    go_enter Try.func18, Try.ntmps18
    go_wp2_with fail
    go_ret
    exact ⟨by rw [hres.out]; rfl, b1.out⟩
  have th6 : decide (300 < (on : Int)) = false := by simp; omega
  by_cases h7 : tn = on
  · have t7 : ((tn : Int) != (on : Int)) = false := by simp [h7]
    have h7' := hide h7
    clear h7
    by_cases h8 : 300 < rn
    · have th8 : decide (300 < (rn : Int)) = true := by simp; omega
      have hres : Hid (rightP p = false) := by
        show _ = _
        have f1 := e1.out; have f2 := e2.out; have f3 := e3.out; have f4 := e4.out
        unfold rightP
        rw [show (decide (p.rows.length ≤ 300)) = false from decide_eq_false (by omega)]
        simp
      clear h8
      go_enter Try.func18, Try.ntmps18
      go_wp2_with fail
      go_ret
      exact ⟨by rw [hres.out]; rfl, b1.out⟩
    have th8 : decide (300 < (rn : Int)) = false := by simp; omega
    by_cases h9 : 300 < gn
    · have th9 : decide (300 < (gn : Int)) = true := by simp; omega
      have hres : Hid (rightP p = false) := by
        show _ = _
        have f1 := e1.out; have f2 := e2.out; have f3 := e3.out; have f4 := e4.out
        unfold rightP
        rw [show (decide (p.gotos.length ≤ 300)) = false from decide_eq_false (by omega)]
        simp
      clear h9
      go_enter Try.func18, Try.ntmps18
      go_wp2_with fail
      go_ret
      exact ⟨by rw [hres.out]; rfl, b1.out⟩
    have th9 : decide (300 < (gn : Int)) = false := by simp; omega
    have CO := numbers_any O on oc p.of (rn : Int) (w.alloc (.cells #[.int .i64 p.terms, .int .i64 p.nons, .slice R rn rc, .slice O on oc, .slice G gn gc, .slice T tn tc] 33)) HP1.out.of (by omega)
    cases hno : numsL p.of (rn : Int) with
    | false =>
      have hres : Hid (rightP p = false) := by show _ = _; unfold rightP; rw [e1.out, hno]; simp
      rw [hno] at CO
      clear hno
      go_enter Try.func18, Try.ntmps18
      go_wp2_with fail
      refine CO.mono ?_
      rintro e w2 ⟨rfl, hb2⟩
      clear CO
      go_wp2_with fail
      go_ret
      exact ⟨by rw [hres.out]; rfl, below_both b1.out hb2 b1.out.size⟩
    | true =>
      rw [hno] at CO
      have Hno := hide hno
      clear hno
      go_enter Try.func18, Try.ntmps18
      go_wp2_with fail
      refine CO.mono ?_
      rintro e w2 ⟨rfl, hb2⟩
      clear CO c0 c1 c2 c3 c4 c5
      have R2 := hide (R1.out.below hb2 R1.out.lt)
      have b2 := hide (below_both b1.out hb2 b1.out.size)
      have c4 := (R2.out.cell 4).trans (show _ = some (.slice G gn gc) from rfl)
      have c5 := (R2.out.cell 5).trans (show _ = some (.slice T tn tc) from rfl)
      have CT := numbers_any T tn tc p.to (gn : Int) w2 (HP.out.to.below b2.out) (by omega)
      clear hb2 R1 b1
      go_wp2_with fail
      cases hnt : numsL p.to (gn : Int) with
      | false =>
        have hres : Hid (rightP p = false) := by show _ = _; unfold rightP; rw [e3.out, hnt]; simp
        rw [hnt] at CT
        clear hnt
        refine CT.mono ?_
        rintro e w3 ⟨rfl, hb3⟩
        have b3 := hide (below_both b2.out hb3 b2.out.size)
        clear CT hb3 c4 c5
        go_wp2_with fail
        go_ret
        exact ⟨by rw [hres.out]; rfl, b3.out⟩
      | true =>
        rw [hnt] at CT
        have hr1 : Hid (rightP p = (p.rows.all (rowOk p.terms) && p.gotos.all (gotOk p.nons))) := by
          show _ = _
          have f1 := e1.out; have f2 := e2.out; have f3 := e3.out; have f4 := e4.out; have f7 := h7'.out
          unfold rightP
          rw [f1, f2, f3, f4, hnt, Hno.out, decide_eq_true (show 0 ≤ p.terms by omega), decide_eq_true (show p.terms ≤ 24 by omega), decide_eq_true (show 0 ≤ p.nons by omega), decide_eq_true (show p.nons ≤ 16 by omega), decide_eq_true (show 1 ≤ on by omega), decide_eq_true (show on ≤ 300 by omega), decide_eq_true f7, decide_eq_true (show rn ≤ 300 by omega), decide_eq_true (show gn ≤ 300 by omega)]
          rfl
        clear hnt
        refine CT.mono ?_
        rintro e w3 ⟨rfl, hb3⟩
        have b3 := hide (below_both b2.out hb3 b2.out.size)
        have R3 := hide (R2.out.below hb3 R2.out.lt)
        clear CT hb3 c4 c5 R2 b2
        have c2 := (R3.out.cell 2).trans (show _ = some (.slice R rn rc) from rfl)
        go_wp2_with fail
        clear c2
        go_loopw [4, 77] (fun _ i wr => ∃ j : Nat, j ≤ rn ∧ i = .int .i64 j ∧ Hid ((p.rows.take j).all (rowOk p.terms) = true) ∧ Hid (Row wr w.heap.size 33 #[.int .i64 p.terms, .int .i64 p.nons, .slice R rn rc, .slice O on oc, .slice G gn gc, .slice T tn tc]) ∧ Hid (Below w.heap.size w wr)) (fun _ i _ => rn - (intOf i).toNat)
        case atStart => exact ⟨0, by omega, rfl, rfl, R3, b3⟩
        case round =>
          obtain ⟨j, hj, rfl, ht, hR, hb⟩ := hrel
          by_cases hlt : j < rn
          · have hlt' : decide ((j : Int) < (rn : Int)) = true := by simp; omega
            have hltp : (j : Int) < (rn : Int) := by omega
            obtain ⟨b, o, row, A', c', rfl, hr, z1, z2, z3, z4⟩ := (HP.out.rows.below hb.out).at_ hlt
            have c0 := (hR.out.cell 0).trans (show _ = some (.int .i64 p.terms) from rfl)
            have CR := rise_41 A' row.length c' row (p.terms + 1) wr z2 (by omega)
            have Z2 := hide z2
            have hX := hide hr
            clear hr z2
            cases hr1' : riseL (row.map (·.1)) (p.terms + 1) (-1) with
            | false =>
              have hres : Hid (rightP p = false) := by show _ = _; rw [hr1.out, all_false hX.out (by simp [rowOk, hr1'])]; rfl
              rw [hr1'] at CR
              clear hr1'
              go_wp2_with fail
              refine CR.mono ?_
              rintro e w4 ⟨rfl, hb4⟩
              have b4 := hide (below_both hb.out hb4 hb.out.size)
              clear CR hb4
              go_wp2_with fail
              go_ret
              exact ⟨by rw [hres.out]; rfl, b4.out⟩
            | true =>
              rw [hr1'] at CR
              have hr1'' := hide hr1'
              clear hr1'
              go_wp2_with fail
              refine CR.mono ?_
              rintro e w4 ⟨rfl, hb4⟩
              have b4 := hide (below_both hb.out hb4 hb.out.size)
              have R4 := hide (hR.out.below hb4 hR.out.lt)
              have CE := has_44 A' row.length c' row w4 (Z2.out.below hb4) (by omega)
              clear CR hb4 c0
              go_wp2_with fail
              cases hre : row.any pEmpty with
              | true =>
                have hres : Hid (rightP p = false) := by show _ = _; rw [hr1.out, all_false hX.out (by simp only [rowOk, hre]; simp)]; rfl
                rw [hre] at CE
                clear hre
                refine CE.mono ?_
                rintro e w5 ⟨rfl, hb5⟩
                have b5 := hide (below_both b4.out hb5 b4.out.size)
                clear CE hb5
                go_wp2_with fail
                go_ret
                exact ⟨by rw [hres.out]; rfl, b5.out⟩
              | false =>
                rw [hre] at CE
                have ht2 : Hid ((p.rows.take (j + 1)).all (rowOk p.terms) = true) := all_take hX.out (by simp only [rowOk, hre, hr1''.out]; rfl) ht.out
                clear hre
                refine CE.mono ?_
                rintro e w5 ⟨rfl, hb5⟩
                have b5 := hide (below_both b4.out hb5 b4.out.size)
                have R5 := hide (R4.out.below hb5 R4.out.lt)
                clear CE hb5
                go_wp2_with fail
                exact ⟨⟨j + 1, by omega, by go_num, ht2, R5, b5⟩, by simp [intOf]; omega⟩
          · have hlt' : decide ((j : Int) < (rn : Int)) = false := by simp; omega
            have hr2 : Hid (rightP p = p.gotos.all (gotOk p.nons)) := by show _ = _; rw [hr1.out, all_end (by rw [e1.out]; omega) ht.out]; rfl
            have c4 := (hR.out.cell 4).trans (show _ = some (.slice G gn gc) from rfl)
            go_wp2_with fail
            clear c4
            go_loopw [6, 95] (fun _ i wr => ∃ j : Nat, j ≤ gn ∧ i = .int .i64 j ∧ Hid ((p.gotos.take j).all (gotOk p.nons) = true) ∧ Hid (Row wr w.heap.size 33 #[.int .i64 p.terms, .int .i64 p.nons, .slice R rn rc, .slice O on oc, .slice G gn gc, .slice T tn tc]) ∧ Hid (Below w.heap.size w wr)) (fun _ i _ => gn - (intOf i).toNat)
            case atStart => exact ⟨0, by omega, rfl, rfl, hR, hb⟩
            case round =>
              clear hR hb ht
              obtain ⟨i, hi, rfl, ht, hR, hb⟩ := hrel
              by_cases hlt2 : i < gn
              · have hlt2' : decide ((i : Int) < (gn : Int)) = true := by simp; omega
                have hltp2 : (i : Int) < (gn : Int) := by omega
                obtain ⟨b, o, row, A', c', rfl, hr, z1, z2, z3, z4⟩ := (HP.out.gotos.below hb.out).at_ hlt2
                have c1 := (hR.out.cell 1).trans (show _ = some (.int .i64 p.nons) from rfl)
                have CR := rise_45 A' row.length c' row p.nons wr z2 (by omega)
                have Z2 := hide z2
                have hX := hide hr
                clear hr z2
                cases hr1' : riseL (row.map (·.1)) p.nons (-1) with
                | false =>
                  have hres : Hid (rightP p = false) := by show _ = _; rw [hr2.out]; exact all_false hX.out (by simp [gotOk, hr1'])
                  rw [hr1'] at CR
                  clear hr1'
                  go_wp2_with fail
                  refine CR.mono ?_
                  rintro e w4 ⟨rfl, hb4⟩
                  have b4 := hide (below_both hb.out hb4 hb.out.size)
                  clear CR hb4
                  go_wp2_with fail
                  go_ret
                  exact ⟨by rw [hres.out]; rfl, b4.out⟩
                | true =>
                  rw [hr1'] at CR
                  have hr1'' := hide hr1'
                  clear hr1'
                  go_wp2_with fail
                  refine CR.mono ?_
                  rintro e w4 ⟨rfl, hb4⟩
                  have b4 := hide (below_both hb.out hb4 hb.out.size)
                  have R4 := hide (hR.out.below hb4 hR.out.lt)
                  have CE := has_48 A' row.length c' row w4 (Z2.out.below hb4) (by omega)
                  clear CR hb4 c1
                  go_wp2_with fail
                  cases hre : row.any pNone with
                  | true =>
                    have hres : Hid (rightP p = false) := by show _ = _; rw [hr2.out]; exact all_false hX.out (by simp only [gotOk, hre]; simp)
                    rw [hre] at CE
                    clear hre
                    refine CE.mono ?_
                    rintro e w5 ⟨rfl, hb5⟩
                    have b5 := hide (below_both b4.out hb5 b4.out.size)
                    clear CE hb5
                    go_wp2_with fail
                    go_ret
                    exact ⟨by rw [hres.out]; rfl, b5.out⟩
                  | false =>
                    rw [hre] at CE
                    have ht2 : Hid ((p.gotos.take (i + 1)).all (gotOk p.nons) = true) := all_take hX.out (by simp only [gotOk, hre, hr1''.out]; rfl) ht.out
                    clear hre
                    refine CE.mono ?_
                    rintro e w5 ⟨rfl, hb5⟩
                    have b5 := hide (below_both b4.out hb5 b4.out.size)
                    have R5 := hide (R4.out.below hb5 R4.out.lt)
                    clear CE hb5
                    go_wp2_with fail
                    exact ⟨⟨i + 1, by omega, by go_num, ht2, R5, b5⟩, by simp [intOf]; omega⟩
              · have hlt2' : decide ((i : Int) < (gn : Int)) = false := by simp; omega
                have hres : Hid (rightP p = true) := by show _ = _; rw [hr2.out]; exact all_end (by rw [e3.out]; omega) ht.out
                go_wp2_with fail
                go_ret
                exact ⟨by rw [hres.out]; rfl, hb.out⟩
  · have t7 : ((tn : Int) != (on : Int)) = true := by simp; omega
    have hres : Hid (rightP p = false) := by show _ = _; unfold rightP; rw [e2.out, e4.out]; simp [h7]
    clear h7
    go_enter Try.func18, Try.ntmps18
    go_wp2_with fail
    go_ret
    exact ⟨by rw [hres.out]; rfl, b1.out⟩
end Go.Proofs.Ytfldbkioepcghaa
