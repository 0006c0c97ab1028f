/- Walks over the reference: more than is looked at? -/
import Derived.Test.YtfldbkioepcghaaT7
namespace Go.Proofs.Ytfldbkioepcghaa
open Go.RowKit
set_option linter.unusedVariables false

def longR {α : Type} (r : List α) : Bool := decide (50 < r.length)
def greatT (t : Tab) : Bool := decide (310 < t.acts.length) || (decide (310 < t.gots.length) || (t.acts.any longR || t.gots.any longR))
def greatP (p : Pk) : Bool := decide (310 < p.rows.length) || (decide (310 < p.gotos.length) || (decide (310 < p.of.length) || (decide (310 < p.to.length) || (p.rows.any longR || p.gotos.any longR))))
theorem any_hit {α : Type} {p : α → Bool} {l : List α} {j : Nat} {x : α} (hx : l[j]? = some x) (h : p x = true) : l.any p = true := List.any_eq_true.2 ⟨x, List.mem_of_getElem? hx, h⟩
theorem any_none {α : Type} {p : α → Bool} {l : List α} {j : Nat} (hj : l.length ≤ j) (ht : (l.take j).all (fun y => !p y) = true) : l.any p = false := by
  rw [List.take_of_length_le hj] at ht
  rw [List.any_eq_false]
  intro x hx
  have := List.all_eq_true.1 ht x hx
  simpa using this

structure TabAt (w : World) (A B : Option Addr) (n m : Nat) (t : Tab) : Prop where
  acts : Nest w 2 f2 A n t.acts
  gots : Nest w 1 f1 B m t.gots
theorem TabAt.below {w w' : World} {A B : Option Addr} {n m : Nat} {t : Tab} (h : TabAt w A B n m t) (hb : Below w.heap.size w w') : TabAt w' A B n m t := ⟨h.acts.below hb, h.gots.below hb⟩

set_option maxHeartbeats 1000000 in
set_option maxRecDepth 100000 in
theorem great17_any (A B : Option Addr) (n m c d : Nat) (t : Tab) (w : World) (hp : TabAt w A B n m t) (hn : n ≤ 9223372036854775807) (hm : m ≤ 9223372036854775807) :
    Calls Try.prog 9 #[.agg #[.slice A n c, .slice B m d]] w (EqPost w (greatT t)) := by
  have b1 := hide (below_alloc w (.cells #[.slice A n c, .slice B m d] 25))
  have R1 : Hid (Row (w.alloc (.cells #[.slice A n c, .slice B m d] 25)) w.heap.size 25 #[.slice A n c, .slice B m d]) := Row.new _ _ _
  have HP := hide (hp.below b1.out)
  have e1 : Hid (t.acts.length = n) := hp.acts.1
  have e2 : Hid (t.gots.length = m) := hp.gots.1
  have x0 := (R1.out.cell 0).trans (show _ = some (.slice A n c) from rfl)
  have x1 := (R1.out.cell 1).trans (show _ = some (.slice B m d) from rfl)
  clear hp
  by_cases g0 : 310 < n
  · have tg0 : decide (310 < (n : Int)) = true := by simp; omega
    have hres : Hid ((greatT t) = true) := by
      show _ = _
      unfold greatT
      rw [e1.out, decide_eq_true g0]
      simp
    clear g0
    go_enter Try.func9, Try.ntmps9
    go_wp2_with fail
    go_ret
    exact ⟨by rw [hres.out]; rfl, b1.out⟩
  have tg0 : decide (310 < (n : Int)) = false := by simp; omega
  by_cases g1 : 310 < m
  · have tg1 : decide (310 < (m : Int)) = true := by simp; omega
    have hres : Hid ((greatT t) = true) := by
      show _ = _
      unfold greatT
      rw [e2.out, decide_eq_true g1]
      simp
    clear g1
    go_enter Try.func9, Try.ntmps9
    go_wp2_with fail
    go_ret
    exact ⟨by rw [hres.out]; rfl, b1.out⟩
  have tg1 : decide (310 < (m : Int)) = false := by simp; omega
  go_enter Try.func9, Try.ntmps9
  go_wp2_with fail
  generalize w.alloc (.cells #[.slice A n c, .slice B m d] 25) = w1 at *
  go_loopw [3] (fun i wr => ∃ j : Nat, j ≤ n ∧ i = .int .i64 j ∧ Hid ((t.acts.take j).all (fun r => !longR r) = true) ∧ Hid (w1 = wr)) (fun i _ => n - (intOf i).toNat)
  case atStart => exact ⟨0, by omega, rfl, rfl, hide rfl⟩
  case round =>
    obtain ⟨j, hj, rfl, ht, hwr⟩ := hrel
    obtain rfl := hwr.out
    by_cases hlt : j < n
    · have hlt' : decide ((j : Int) < (n : Int)) = true := by simp; omega
      have hltp : (j : Int) < (n : Int) := by omega
      obtain ⟨b, o, row, A', c', rfl, hr, z1, _, z3, z4⟩ := HP.out.acts.at_ hlt
      by_cases h5 : 50 < row.length
      · have t5 : decide (50 < (row.length : Int)) = true := by simp; omega
        have t5' : decide (50 < row.length) = true := decide_eq_true h5
        have hres : Hid ((greatT t) = true) := by
          show _ = _
          unfold greatT
          rw [any_hit (l := t.acts) hr t5']
          simp
        clear hr h5
        go_wp2_with fail
        go_ret
        exact ⟨by rw [hres.out]; rfl, b1.out⟩
      · have t5 : decide (50 < (row.length : Int)) = false := by simp; omega
        have ht2 : Hid ((t.acts.take (j + 1)).all (fun r => !longR r) = true) := all_take hr (by simp [longR]; omega) ht.out
        clear hr h5
        go_wp2_with fail
        exact ⟨⟨j + 1, by omega, by go_num, ht2, hide trivial⟩, by simp [intOf]; omega⟩
    · have hlt' : decide ((j : Int) < (n : Int)) = false := by simp; omega
      have ha : Hid (t.acts.any longR = false) := any_none (by rw [e1.out]; omega) ht.out
      go_wp2_with fail
      go_loopw [4] (fun i wr => ∃ j : Nat, j ≤ m ∧ i = .int .i64 j ∧ Hid ((t.gots.take j).all (fun r => !longR r) = true) ∧ Hid (w1 = wr)) (fun i _ => m - (intOf i).toNat)
      case atStart => exact ⟨0, by omega, rfl, rfl, hide rfl⟩
      case round =>
        clear ht hlt hlt' hj
        obtain ⟨i, hi, rfl, ht, hwr⟩ := hrel
        obtain rfl := hwr.out
        by_cases hlt : i < m
        · have hlt' : decide ((i : Int) < (m : Int)) = true := by simp; omega
          have hltp : (i : Int) < (m : Int) := by omega
          obtain ⟨b, o, row, A', c', rfl, hr, z1, _, z3, z4⟩ := HP.out.gots.at_ hlt
          by_cases h5 : 50 < row.length
          · have t5 : decide (50 < (row.length : Int)) = true := by simp; omega
            have t5' : decide (50 < row.length) = true := decide_eq_true h5
            have hres : Hid ((greatT t) = true) := by
              show _ = _
              unfold greatT
              rw [any_hit (l := t.gots) hr t5']
              simp
            clear hr h5
            go_wp2_with fail
            go_ret
            exact ⟨by rw [hres.out]; rfl, b1.out⟩
          · have t5 : decide (50 < (row.length : Int)) = false := by simp; omega
            have ht2 : Hid ((t.gots.take (i + 1)).all (fun r => !longR r) = true) := all_take hr (by simp [longR]; omega) ht.out
            clear hr h5
            go_wp2_with fail
            exact ⟨⟨i + 1, by omega, by go_num, ht2, hide trivial⟩, by simp [intOf]; omega⟩
        · have hlt' : decide ((i : Int) < (m : Int)) = false := by simp; omega
          have hres : Hid ((greatT t) = false) := by
            show _ = _
            unfold greatT
            rw [ha.out, any_none (p := longR) (l := t.gots) (by rw [e2.out]; omega) ht.out]
            rw [e1.out, e2.out, decide_eq_false g0, decide_eq_false g1]
            rfl
          go_wp2_with fail
          go_ret
          exact ⟨by rw [hres.out]; rfl, b1.out⟩

set_option maxHeartbeats 1000000 in
set_option maxRecDepth 100000 in
theorem great18_any (R O G T : Option Addr) (rn on gn tn rc oc gc tc : Nat) (p : Pk) (w : World) (hp : PkAt w R O G T rn on gn tn p) (h1 : rn ≤ 9223372036854775807) (h2 : on ≤ 9223372036854775807) (h3 : gn ≤ 9223372036854775807) (h4 : tn ≤ 9223372036854775807) :
    Calls Try.prog 15 #[.agg #[.int .i64 p.terms, .int .i64 p.nons, .slice R rn rc, .slice O on oc, .slice G gn gc, .slice T tn tc]] w (EqPost w (greatP p)) := by
  have b1 := hide (below_alloc w (.cells #[.int .i64 p.terms, .int .i64 p.nons, .slice R rn rc, .slice O on oc, .slice G gn gc, .slice T tn tc] 33))
  have R1 : Hid (Row (w.alloc (.cells #[.int .i64 p.terms, .int .i64 p.nons, .slice R rn rc, .slice O on oc, .slice G gn gc, .slice T tn tc] 33)) w.heap.size 33 #[.int .i64 p.terms, .int .i64 p.nons, .slice R rn rc, .slice O on oc, .slice G gn gc, .slice T tn tc]) := Row.new _ _ _
  have HP := hide (hp.below b1.out)
  have e1 : Hid (p.rows.length = rn) := hp.rows.1
  have e2 : Hid (p.gotos.length = gn) := hp.gotos.1
  have e3 : Hid (p.of.length = on) := hp.of.1
  have e4 : Hid (p.to.length = tn) := hp.to.1
  have x0 := (R1.out.cell 0).trans (show _ = some (.int .i64 p.terms) from rfl)
  have x1 := (R1.out.cell 1).trans (show _ = some (.int .i64 p.nons) from rfl)
  have x2 := (R1.out.cell 2).trans (show _ = some (.slice R rn rc) from rfl)
  have x3 := (R1.out.cell 3).trans (show _ = some (.slice O on oc) from rfl)
  have x4 := (R1.out.cell 4).trans (show _ = some (.slice G gn gc) from rfl)
  have x5 := (R1.out.cell 5).trans (show _ = some (.slice T tn tc) from rfl)
  clear hp
  by_cases g0 : 310 < rn
  · have tg0 : decide (310 < (rn : Int)) = true := by simp; omega
    have hres : Hid ((greatP p) = true) := by
      show _ = _
      unfold greatP
      rw [e1.out, decide_eq_true g0]
      simp
    clear g0
    go_enter Try.func15, Try.ntmps15
    go_wp2_with fail
    go_ret
    exact ⟨by rw [hres.out]; rfl, b1.out⟩
  have tg0 : decide (310 < (rn : Int)) = false := by simp; omega
  by_cases g1 : 310 < gn
  · have tg1 : decide (310 < (gn : Int)) = true := by simp; omega
    have hres : Hid ((greatP p) = true) := by
      show _ = _
      unfold greatP
      rw [e2.out, decide_eq_true g1]
      simp
    clear g1
    go_enter Try.func15, Try.ntmps15
    go_wp2_with fail
    go_ret
    exact ⟨by rw [hres.out]; rfl, b1.out⟩
  have tg1 : decide (310 < (gn : Int)) = false := by simp; omega
  by_cases g2 : 310 < on
  · have tg2 : decide (310 < (on : Int)) = true := by simp; omega
    have hres : Hid ((greatP p) = true) := by
      show _ = _
      unfold greatP
      rw [e3.out, decide_eq_true g2]
      simp
    clear g2
    go_enter Try.func15, Try.ntmps15
    go_wp2_with fail
    go_ret
    exact ⟨by rw [hres.out]; rfl, b1.out⟩
  have tg2 : decide (310 < (on : Int)) = false := by simp; omega
  by_cases g3 : 310 < tn
  · have tg3 : decide (310 < (tn : Int)) = true := by simp; omega
    have hres : Hid ((greatP p) = true) := by
      show _ = _
      unfold greatP
      rw [e4.out, decide_eq_true g3]
      simp
    clear g3
    go_enter Try.func15, Try.ntmps15
    go_wp2_with fail
    go_ret
    exact ⟨by rw [hres.out]; rfl, b1.out⟩
  have tg3 : decide (310 < (tn : Int)) = false := by simp; omega
  go_enter Try.func15, Try.ntmps15
  go_wp2_with fail
  generalize w.alloc (.cells #[.int .i64 p.terms, .int .i64 p.nons, .slice R rn rc, .slice O on oc, .slice G gn gc, .slice T tn tc] 33) = w1 at *
  go_loopw [3] (fun i wr => ∃ j : Nat, j ≤ rn ∧ i = .int .i64 j ∧ Hid ((p.rows.take j).all (fun r => !longR r) = true) ∧ Hid (w1 = wr)) (fun i _ => rn - (intOf i).toNat)
  case atStart => exact ⟨0, by omega, rfl, rfl, hide rfl⟩
  case round =>
    obtain ⟨j, hj, rfl, ht, hwr⟩ := hrel
    obtain rfl := hwr.out
    by_cases hlt : j < rn
    · have hlt' : decide ((j : Int) < (rn : Int)) = true := by simp; omega
      have hltp : (j : Int) < (rn : Int) := by omega
      obtain ⟨b, o, row, A', c', rfl, hr, z1, _, z3, z4⟩ := HP.out.rows.at_ hlt
      by_cases h5 : 50 < row.length
      · have t5 : decide (50 < (row.length : Int)) = true := by simp; omega
        have t5' : decide (50 < row.length) = true := decide_eq_true h5
        have hres : Hid ((greatP p) = true) := by
          show _ = _
          unfold greatP
          rw [any_hit (l := p.rows) hr t5']
          simp
        clear hr h5
        go_wp2_with fail
        go_ret
        exact ⟨by rw [hres.out]; rfl, b1.out⟩
      · have t5 : decide (50 < (row.length : Int)) = false := by simp; omega
        have ht2 : Hid ((p.rows.take (j + 1)).all (fun r => !longR r) = true) := all_take hr (by simp [longR]; omega) ht.out
        clear hr h5
        go_wp2_with fail
        exact ⟨⟨j + 1, by omega, by go_num, ht2, hide trivial⟩, by simp [intOf]; omega⟩
    · have hlt' : decide ((j : Int) < (rn : Int)) = false := by simp; omega
      have ha : Hid (p.rows.any longR = false) := any_none (by rw [e1.out]; omega) ht.out
      go_wp2_with fail
      go_loopw [4] (fun i wr => ∃ j : Nat, j ≤ gn ∧ i = .int .i64 j ∧ Hid ((p.gotos.take j).all (fun r => !longR r) = true) ∧ Hid (w1 = wr)) (fun i _ => gn - (intOf i).toNat)
      case atStart => exact ⟨0, by omega, rfl, rfl, hide rfl⟩
      case round =>
        clear ht hlt hlt' hj
        obtain ⟨i, hi, rfl, ht, hwr⟩ := hrel
        obtain rfl := hwr.out
        by_cases hlt : i < gn
        · have hlt' : decide ((i : Int) < (gn : Int)) = true := by simp; omega
          have hltp : (i : Int) < (gn : Int) := by omega
          obtain ⟨b, o, row, A', c', rfl, hr, z1, _, z3, z4⟩ := HP.out.gotos.at_ hlt
          by_cases h5 : 50 < row.length
          · have t5 : decide (50 < (row.length : Int)) = true := by simp; omega
            have t5' : decide (50 < row.length) = true := decide_eq_true h5
            have hres : Hid ((greatP p) = true) := by
              show _ = _
              unfold greatP
              rw [any_hit (l := p.gotos) hr t5']
              simp
            clear hr h5
            go_wp2_with fail
            go_ret
            exact ⟨by rw [hres.out]; rfl, b1.out⟩
          · have t5 : decide (50 < (row.length : Int)) = false := by simp; omega
            have ht2 : Hid ((p.gotos.take (i + 1)).all (fun r => !longR r) = true) := all_take hr (by simp [longR]; omega) ht.out
            clear hr h5
            go_wp2_with fail
            exact ⟨⟨i + 1, by omega, by go_num, ht2, hide trivial⟩, by simp [intOf]; omega⟩
        · have hlt' : decide ((i : Int) < (gn : Int)) = false := by simp; omega
          have hres : Hid ((greatP p) = false) := by
            show _ = _
            unfold greatP
            rw [ha.out, any_none (p := longR) (l := p.gotos) (by rw [e2.out]; omega) ht.out]
            rw [e1.out, e2.out, e3.out, e4.out, decide_eq_false g0, decide_eq_false g1, decide_eq_false g2, decide_eq_false g3]
            rfl
          go_wp2_with fail
          go_ret
          exact ⟨by rw [hres.out]; rfl, b1.out⟩
end Go.Proofs.Ytfldbkioepcghaa
