/- Walks over pack: equal rows of rows, equal packed tables. -/
import Derived.Test.YtfldbkioepcghaaT7
namespace Go.Proofs.Ytfldbkioepcghaa
open Go.RowKit
set_option linter.unusedVariables false

set_option maxHeartbeats 1000000 in
set_option maxRecDepth 100000 in
theorem eqf_50 (A B : Option Addr) (n m c d : Nat) (l k : List (List (Int × Int × Int))) (w : World) (h1 : Nest w 3 f3 A n l) (h2 : Nest w 3 f3 B m k) (hn : n ≤ 9223372036854775807) (hm : m ≤ 9223372036854775807) :
    Calls Try.prog 50 #[.slice A n c, .slice B m d, .func (.func 51) #[] #[]] w (EqPost w (decide (l = k))) := by
  have H1 := hide h1
  have H2 := hide h2
  have l1 := hide h1.1
  have l2 := hide h2.1
  clear h1 h2
  by_cases hne : n = m
  · subst hne
    have t0 : ((n : Int) != (n : Int)) = false := by simp
    go_enter Try.func50, Try.ntmps50
    go_wp2_with fail
    go_loopw [7, 8, 9, 17] (fun _ _ _ i wr => ∃ j : Nat, j ≤ n ∧ i = .int .i64 j ∧ Hid (l.take j = k.take j) ∧ Hid (Below w.heap.size w wr)) (fun _ _ _ i _ => n - (intOf i).toNat)
    case atStart => exact ⟨0, by omega, rfl, rfl, Below.refl _ _⟩
    case round =>
      obtain ⟨j, hj, rfl, ht, hb⟩ := hrel
      by_cases hlt : j < n
      · have hlt' : decide ((j : Int) < (n : Int)) = true := by simp; omega
        have hltp : (j : Int) < (n : Int) := by omega
        obtain ⟨b, o, x, A', c', rfl, hx, z1, z2, z3, z4⟩ := (H1.out.below hb.out).at_ hlt
        obtain ⟨b', o', y, B', d', rfl, hy, y1, y2, y3, y4⟩ := (H2.out.below hb.out).at_ hlt
        have C := eq_51 A' B' x.length y.length c' d' x y wr z2 y2 (by omega) (by omega)
        have hX := hide hx
        have hY := hide hy
        clear hx hy z2 y2
        by_cases hxy : x = y
        · have ht2 : Hid (l.take (j + 1) = k.take (j + 1)) := same_take hX.out (hxy ▸ hY.out) ht.out
          rw [decide_eq_true hxy] at C
          clear hX hY hxy ht
          go_wp2_with fail
          refine C.mono ?_
          rintro e w3 ⟨rfl, hb3⟩
          have hb4 := hide (below_both hb.out hb3 hb.out.size)
          clear C hb3
          go_wp2_with fail
          exact ⟨⟨j + 1, by omega, by go_num, ht2, hb4⟩, by simp [intOf]; omega⟩
        · have hf : Hid (decide (l = k) = false) := ne_at hX.out hY.out hxy
          rw [decide_eq_false hxy] at C
          clear hX hY hxy ht
          go_wp2_with fail
          refine C.mono ?_
          rintro e w3 ⟨rfl, hb3⟩
          have hb4 := hide (below_both hb.out hb3 hb.out.size)
          clear C hb3
          go_wp2_with fail
          go_ret
          exact ⟨by rw [hf.out]; rfl, hb4.out⟩
      · have hlt' : decide ((j : Int) < (n : Int)) = false := by simp; omega
        have hf : Hid (decide (l = k) = true) := by
          show _ = _
          have := ht.out
          rw [List.take_of_length_le (by rw [l1.out]; omega), List.take_of_length_le (by rw [l2.out]; omega)] at this
          rw [this]
          simp
        go_wp2_with fail
        go_ret
        exact ⟨by rw [hf.out]; rfl, hb.out⟩
  · have hf : Hid (decide (l = k) = false) := by
      show _ = _
      rw [decide_eq_false_iff_not]
      rintro rfl
      exact hne (l1.out.symm.trans l2.out)
    have t0 : ((n : Int) != (m : Int)) = true := by simp; omega
    go_enter Try.func50, Try.ntmps50
    go_wp2_with fail
    go_ret
    exact ⟨by rw [hf.out]; rfl, Below.refl _ _⟩

set_option maxHeartbeats 1000000 in
set_option maxRecDepth 100000 in
theorem eqf_52 (A B : Option Addr) (n m c d : Nat) (l k : List (List (Int × Int))) (w : World) (h1 : Nest w 2 f2 A n l) (h2 : Nest w 2 f2 B m k) (hn : n ≤ 9223372036854775807) (hm : m ≤ 9223372036854775807) :
    Calls Try.prog 52 #[.slice A n c, .slice B m d, .func (.func 53) #[] #[]] w (EqPost w (decide (l = k))) := by
  have H1 := hide h1
  have H2 := hide h2
  have l1 := hide h1.1
  have l2 := hide h2.1
  clear h1 h2
  by_cases hne : n = m
  · subst hne
    have t0 : ((n : Int) != (n : Int)) = false := by simp
    go_enter Try.func52, Try.ntmps52
    go_wp2_with fail
    go_loopw [7, 8, 9, 17] (fun _ _ _ i wr => ∃ j : Nat, j ≤ n ∧ i = .int .i64 j ∧ Hid (l.take j = k.take j) ∧ Hid (Below w.heap.size w wr)) (fun _ _ _ i _ => n - (intOf i).toNat)
    case atStart => exact ⟨0, by omega, rfl, rfl, Below.refl _ _⟩
    case round =>
      obtain ⟨j, hj, rfl, ht, hb⟩ := hrel
      by_cases hlt : j < n
      · have hlt' : decide ((j : Int) < (n : Int)) = true := by simp; omega
        have hltp : (j : Int) < (n : Int) := by omega
        obtain ⟨b, o, x, A', c', rfl, hx, z1, z2, z3, z4⟩ := (H1.out.below hb.out).at_ hlt
        obtain ⟨b', o', y, B', d', rfl, hy, y1, y2, y3, y4⟩ := (H2.out.below hb.out).at_ hlt
        have C := eq_53 A' B' x.length y.length c' d' x y wr z2 y2 (by omega) (by omega)
        have hX := hide hx
        have hY := hide hy
        clear hx hy z2 y2
        by_cases hxy : x = y
        · have ht2 : Hid (l.take (j + 1) = k.take (j + 1)) := same_take hX.out (hxy ▸ hY.out) ht.out
          rw [decide_eq_true hxy] at C
          clear hX hY hxy ht
          go_wp2_with fail
          refine C.mono ?_
          rintro e w3 ⟨rfl, hb3⟩
          have hb4 := hide (below_both hb.out hb3 hb.out.size)
          clear C hb3
          go_wp2_with fail
          exact ⟨⟨j + 1, by omega, by go_num, ht2, hb4⟩, by simp [intOf]; omega⟩
        · have hf : Hid (decide (l = k) = false) := ne_at hX.out hY.out hxy
          rw [decide_eq_false hxy] at C
          clear hX hY hxy ht
          go_wp2_with fail
          refine C.mono ?_
          rintro e w3 ⟨rfl, hb3⟩
          have hb4 := hide (below_both hb.out hb3 hb.out.size)
          clear C hb3
          go_wp2_with fail
          go_ret
          exact ⟨by rw [hf.out]; rfl, hb4.out⟩
      · have hlt' : decide ((j : Int) < (n : Int)) = false := by simp; omega
        have hf : Hid (decide (l = k) = true) := by
          show _ = _
          have := ht.out
          rw [List.take_of_length_le (by rw [l1.out]; omega), List.take_of_length_le (by rw [l2.out]; omega)] at this
          rw [this]
          simp
        go_wp2_with fail
        go_ret
        exact ⟨by rw [hf.out]; rfl, hb.out⟩
  · have hf : Hid (decide (l = k) = false) := by
      show _ = _
      rw [decide_eq_false_iff_not]
      rintro rfl
      exact hne (l1.out.symm.trans l2.out)
    have t0 : ((n : Int) != (m : Int)) = true := by simp; omega
    go_enter Try.func52, Try.ntmps52
    go_wp2_with fail
    go_ret
    exact ⟨by rw [hf.out]; rfl, Below.refl _ _⟩

def sameP (p q : Pk) : Bool := (p.terms == q.terms) && ((p.nons == q.nons) && (decide (p.of = q.of) && (decide (p.to = q.to) && (decide (p.rows = q.rows) && decide (p.gotos = q.gotos)))))
theorem sameP_eq (p q : Pk) : sameP p q = decide (p = q) := by
  obtain ⟨a, b, c, d, e, f⟩ := p
  obtain ⟨a', b', c', d', e', f'⟩ := q
  unfold sameP
  rw [Bool.eq_iff_iff]
  simp only [Pk.mk.injEq, Bool.and_eq_true, decide_eq_true_eq, beq_iff_eq]
  constructor
  · rintro ⟨h1, h2, h3, h4, h5, h6⟩; exact ⟨h1, h2, h5, h3, h6, h4⟩
  · rintro ⟨h1, h2, h5, h3, h6, h4⟩; exact ⟨h1, h2, h3, h4, h5, h6⟩

set_option maxHeartbeats 2000000 in
set_option maxRecDepth 100000 in
theorem same_any (R O G T R' O' G' T' : Option Addr) (rn on gn tn rc oc gc tc rn' on' gn' tn' rc' oc' gc' tc' : Nat) (p q : Pk) (w : World) (hp : PkAt w R O G T rn on gn tn p) (hq : PkAt w R' O' G' T' rn' on' gn' tn' q)
    (h1 : rn ≤ 1000000) (h2 : on ≤ 1000000) (h3 : gn ≤ 1000000) (h4 : tn ≤ 1000000) (h5 : rn' ≤ 1000000) (h6 : on' ≤ 1000000) (h7 : gn' ≤ 1000000) (h8 : tn' ≤ 1000000) :
    Calls Try.prog 20 #[.agg #[.int .i64 p.terms, .int .i64 p.nons, .slice R rn rc, .slice O on oc, .slice G gn gc, .slice T tn tc], .agg #[.int .i64 q.terms, .int .i64 q.nons, .slice R' rn' rc', .slice O' on' oc', .slice G' gn' gc', .slice T' tn' tc']] w (EqPost w (sameP p q)) := by
  have b1 : Hid (Below w.heap.size w ((w.alloc (.cells #[.int .i64 p.terms, .int .i64 p.nons, .slice R rn rc, .slice O on oc, .slice G gn gc, .slice T tn tc] 33)).alloc (.cells #[.int .i64 q.terms, .int .i64 q.nons, .slice R' rn' rc', .slice O' on' oc', .slice G' gn' gc', .slice T' tn' tc'] 33))) := ((Below.refl _ _).alloc (Nat.le_refl _) _).alloc (by simp) _
  have R1 : Hid (Row ((w.alloc (.cells #[.int .i64 p.terms, .int .i64 p.nons, .slice R rn rc, .slice O on oc, .slice G gn gc, .slice T tn tc] 33)).alloc (.cells #[.int .i64 q.terms, .int .i64 q.nons, .slice R' rn' rc', .slice O' on' oc', .slice G' gn' gc', .slice T' tn' tc'] 33)) w.heap.size 33 #[.int .i64 p.terms, .int .i64 p.nons, .slice R rn rc, .slice O on oc, .slice G gn gc, .slice T tn tc]) := (Row.new _ _ _).alloc _
  have R2 : Hid (Row ((w.alloc (.cells #[.int .i64 p.terms, .int .i64 p.nons, .slice R rn rc, .slice O on oc, .slice G gn gc, .slice T tn tc] 33)).alloc (.cells #[.int .i64 q.terms, .int .i64 q.nons, .slice R' rn' rc', .slice O' on' oc', .slice G' gn' gc', .slice T' tn' tc'] 33)) (w.heap.size + 1) 33 #[.int .i64 q.terms, .int .i64 q.nons, .slice R' rn' rc', .slice O' on' oc', .slice G' gn' gc', .slice T' tn' tc']) := by
    have := Row.new (w.alloc (.cells #[.int .i64 p.terms, .int .i64 p.nons, .slice R rn rc, .slice O on oc, .slice G gn gc, .slice T tn tc] 33)) 33 #[.int .i64 q.terms, .int .i64 q.nons, .slice R' rn' rc', .slice O' on' oc', .slice G' gn' gc', .slice T' tn' tc']
    show Row _ _ _ _
    simpa using this
  have HP := hide hp
  have HQ := hide hq
  have HP1 := hide (hp.below b1.out)
  have HQ1 := hide (hq.below b1.out)
  have x0 := (R1.out.cell 0).trans (show _ = some (.int .i64 p.terms) from rfl)
  have y0 := (R2.out.cell 0).trans (show _ = some (.int .i64 q.terms) from rfl)
  have x1 := (R1.out.cell 1).trans (show _ = some (.int .i64 p.nons) from rfl)
  have y1 := (R2.out.cell 1).trans (show _ = some (.int .i64 q.nons) from rfl)
  have x2 := (R1.out.cell 2).trans (show _ = some (.slice R rn rc) from rfl)
  have y2 := (R2.out.cell 2).trans (show _ = some (.slice R' rn' rc') from rfl)
  have x3 := (R1.out.cell 3).trans (show _ = some (.slice O on oc) from rfl)
  have y3 := (R2.out.cell 3).trans (show _ = some (.slice O' on' oc') from rfl)
  have x4 := (R1.out.cell 4).trans (show _ = some (.slice G gn gc) from rfl)
  have y4 := (R2.out.cell 4).trans (show _ = some (.slice G' gn' gc') from rfl)
  have x5 := (R1.out.cell 5).trans (show _ = some (.slice T tn tc) from rfl)
  have y5 := (R2.out.cell 5).trans (show _ = some (.slice T' tn' tc') from rfl)
  clear hp hq
  cases ht : (p.terms == q.terms) with
  | false =>
    have hres : Hid (sameP p q = false) := by show _ = _; unfold sameP; rw [ht]; rfl
    go_enter Try.func20, Try.ntmps20
    go_wp2_with fail
    go_ret
    exact ⟨by rw [hres.out]; rfl, b1.out⟩
  | true =>
    cases hn : (p.nons == q.nons) with
    | false =>
      have hres : Hid (sameP p q = false) := by show _ = _; unfold sameP; rw [ht, hn]; rfl
      go_enter Try.func20, Try.ntmps20
      go_wp2_with fail
      go_ret
      exact ⟨by rw [hres.out]; rfl, b1.out⟩
    | true =>
      have hres1 : Hid (sameP p q = (decide (p.of = q.of) && (decide (p.to = q.to) && (decide (p.rows = q.rows) && decide (p.gotos = q.gotos))))) := by show _ = _; unfold sameP; rw [ht, hn]; rfl
      go_enter Try.func20, Try.ntmps20
      go_wp2_with fail
      clear x0 y0 x1 y1 x2 y2 x3 y3 x4 y4 x5 y5 ht hn
      generalize ((w.alloc (.cells #[.int .i64 p.terms, .int .i64 p.nons, .slice R rn rc, .slice O on oc, .slice G gn gc, .slice T tn tc] 33)).alloc (.cells #[.int .i64 q.terms, .int .i64 q.nons, .slice R' rn' rc', .slice O' on' oc', .slice G' gn' gc', .slice T' tn' tc'] 33)) = w1 at *
      have C2 := eq_49 O O' on on' oc oc' p.of q.of w1 HP1.out.of HQ1.out.of (by omega) (by omega)
      unfold EqPost at C2
      cases hof' : decide (p.of = q.of) with
      | false =>
        have hres : Hid (sameP p q = false) := by show _ = _; rw [hres1.out, hof']; rfl
        rw [hof'] at C2
        clear hof'
        refine C2.mono ?_
        rintro e w2 ⟨rfl, hb⟩
        have b9 := hide (below_both b1.out hb b1.out.size)
        clear C2 hb
        go_wp2_with fail
        go_ret
        exact ⟨by rw [hres.out]; rfl, b9.out⟩
      | true =>
        have hres2 : Hid (sameP p q = (decide (p.to = q.to) && (decide (p.rows = q.rows) && decide (p.gotos = q.gotos)))) := by show _ = _; rw [hres1.out, hof']; try rfl
        rw [hof'] at C2
        clear hof'
        refine C2.mono ?_
        rintro e w2 ⟨rfl, hb⟩
        have b2 := hide (below_both b1.out hb b1.out.size)
        have P2 := hide (R1.out.below hb R1.out.lt)
        have Q2 := hide (R2.out.below hb R2.out.lt)
        have x5 := (P2.out.cell 5).trans (show _ = some (.slice T tn tc) from rfl)
        have y5 := (Q2.out.cell 5).trans (show _ = some (.slice T' tn' tc') from rfl)
        clear C2 hb
        go_wp2_with fail
        clear x5 y5
        have C3 := eq_49 T T' tn tn' tc tc' p.to q.to w2 (HP.out.to.below b2.out) (HQ.out.to.below b2.out) (by omega) (by omega)
        unfold EqPost at C3
        cases hto' : decide (p.to = q.to) with
        | false =>
          have hres : Hid (sameP p q = false) := by show _ = _; rw [hres2.out, hto']; rfl
          rw [hto'] at C3
          clear hto'
          refine C3.mono ?_
          rintro e w3 ⟨rfl, hb⟩
          have b9 := hide (below_both b2.out hb b2.out.size)
          clear C3 hb
          go_wp2_with fail
          go_ret
          exact ⟨by rw [hres.out]; rfl, b9.out⟩
        | true =>
          have hres3 : Hid (sameP p q = (decide (p.rows = q.rows) && decide (p.gotos = q.gotos))) := by show _ = _; rw [hres2.out, hto']; try rfl
          rw [hto'] at C3
          clear hto'
          refine C3.mono ?_
          rintro e w3 ⟨rfl, hb⟩
          have b3 := hide (below_both b2.out hb b2.out.size)
          have P3 := hide (P2.out.below hb P2.out.lt)
          have Q3 := hide (Q2.out.below hb Q2.out.lt)
          have x2 := (P3.out.cell 2).trans (show _ = some (.slice R rn rc) from rfl)
          have y2 := (Q3.out.cell 2).trans (show _ = some (.slice R' rn' rc') from rfl)
          clear C3 hb
          go_wp2_with fail
          clear x2 y2
          have C4 := eqf_50 R R' rn rn' rc rc' p.rows q.rows w3 (HP.out.rows.below b3.out) (HQ.out.rows.below b3.out) (by omega) (by omega)
          unfold EqPost at C4
          cases hrows' : decide (p.rows = q.rows) with
          | false =>
            have hres : Hid (sameP p q = false) := by show _ = _; rw [hres3.out, hrows']; rfl
            rw [hrows'] at C4
            clear hrows'
            refine C4.mono ?_
            rintro e w4 ⟨rfl, hb⟩
            have b9 := hide (below_both b3.out hb b3.out.size)
            clear C4 hb
            go_wp2_with fail
            go_ret
            exact ⟨by rw [hres.out]; rfl, b9.out⟩
          | true =>
            have hres4 : Hid (sameP p q = decide (p.gotos = q.gotos)) := by show _ = _; rw [hres3.out, hrows']; try rfl
            rw [hrows'] at C4
            clear hrows'
            refine C4.mono ?_
            rintro e w4 ⟨rfl, hb⟩
            have b4 := hide (below_both b3.out hb b3.out.size)
            have P4 := hide (P3.out.below hb P3.out.lt)
            have Q4 := hide (Q3.out.below hb Q3.out.lt)
            have x4 := (P4.out.cell 4).trans (show _ = some (.slice G gn gc) from rfl)
            have y4 := (Q4.out.cell 4).trans (show _ = some (.slice G' gn' gc') from rfl)
            clear C4 hb
            go_wp2_with fail
            clear x4 y4
            have C5 := eqf_52 G G' gn gn' gc gc' p.gotos q.gotos w4 (HP.out.gotos.below b4.out) (HQ.out.gotos.below b4.out) (by omega) (by omega)
            unfold EqPost at C5
            cases hgotos' : decide (p.gotos = q.gotos) with
            | false =>
              have hres : Hid (sameP p q = false) := by show _ = _; rw [hres4.out, hgotos']
              rw [hgotos'] at C5
              clear hgotos'
              refine C5.mono ?_
              rintro e w5 ⟨rfl, hb⟩
              have b9 := hide (below_both b4.out hb b4.out.size)
              clear C5 hb
              go_wp2_with fail
              go_ret
              exact ⟨by rw [hres.out]; rfl, b9.out⟩
            | true =>
              have hres5 : Hid (sameP p q = true) := by show _ = _; rw [hres4.out, hgotos']; try rfl
              rw [hgotos'] at C5
              clear hgotos'
              refine C5.mono ?_
              rintro e w5 ⟨rfl, hb⟩
              have b5 := hide (below_both b4.out hb b4.out.size)
              clear C5 hb
              go_wp2_with fail
              go_ret
              exact ⟨by rw [hres5.out]; rfl, b5.out⟩
end Go.Proofs.Ytfldbkioepcghaa
