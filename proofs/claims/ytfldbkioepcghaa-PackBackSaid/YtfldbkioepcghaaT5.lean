/- Walks over pack: a table packed. -/
import Derived.Test.YtfldbkioepcghaaT4
namespace Go.Proofs.Ytfldbkioepcghaa
open Go.RowKit
set_option linter.unusedVariables false

structure Tab where
  acts : List (List (Int × Int))
  gots : List (List Int)
structure Pk where
  terms : Int
  nons : Int
  rows : List (List (Int × Int × Int))
  of : List Int
  gotos : List (List (Int × Int))
  to : List Int
theorem Tab.same {a b : Tab} (h : a.acts = b.acts ∧ a.gots = b.gots) : a = b := by
  obtain ⟨h1, h2⟩ := h
  cases a
  cases b
  cases h1
  cases h2
  rfl
theorem Pk.same {a b : Pk} (h : a.terms = b.terms ∧ a.nons = b.nons ∧ a.rows = b.rows ∧ a.of = b.of ∧ a.gotos = b.gotos ∧ a.to = b.to) : a = b := by
  obtain ⟨h1, h2, h3, h4, h5, h6⟩ := h
  cases a
  cases b
  cases h1
  cases h2
  cases h3
  cases h4
  cases h5
  cases h6
  rfl
instance : DecidableEq Tab := fun a b => decidable_of_iff (a.acts = b.acts ∧ a.gots = b.gots) ⟨Tab.same, fun h => by rw [h]; exact ⟨rfl, rfl⟩⟩
instance : DecidableEq Pk := fun a b => decidable_of_iff (a.terms = b.terms ∧ a.nons = b.nons ∧ a.rows = b.rows ∧ a.of = b.of ∧ a.gotos = b.gotos ∧ a.to = b.to) ⟨Pk.same, fun h => by rw [h]; exact ⟨rfl, rfl, rfl, rfl, rfl, rfl⟩⟩

/-- May a table be packed? -/
def shapedT (t : Tab) : Bool := decide (1 ≤ t.acts.length) && (decide (t.acts.length ≤ 300) && (decide (t.gots.length = t.acts.length) && (evenL t.acts 1 25 && evenL t.gots 0 16)))
def packT (t : Tab) : Pk :=
  ⟨((t.acts.headD []).length : Int) - 1, ((t.gots.headD []).length : Int), (shareF (fun r => entF r 0) t.acts [] []).1, (shareF (fun r => entF r 0) t.acts [] []).2, (shareF (fun r => edgF r 0) t.gots [] []).1, (shareF (fun r => edgF r 0) t.gots [] []).2⟩
def packE (t : Tab) : Pk × Int := if shapedT t then (packT t, 0) else (⟨0, 0, [], [], [], []⟩, 1)

/-- A packed table of the call's own. -/
def PkOwn (w : World) (base : Nat) (R O G T : Option Addr) (rc oc gc tc : Nat) (p : Pk) : Prop :=
  OwnN w base 61 54 3 f3 (.slice R p.rows.length rc) p.rows ∧ OwnR w base 3 1 f1 (.slice O p.of.length oc) p.of ∧ OwnN w base 62 59 2 f2 (.slice G p.gotos.length gc) p.gotos ∧ OwnR w base 3 1 f1 (.slice T p.to.length tc) p.to
def PkPost (w : World) (r : Pk × Int) (e : Ending) (w' : World) : Prop :=
  ∃ R O G T rc oc gc tc, e = .returned (.tuple #[.agg #[.int .i64 r.1.terms, .int .i64 r.1.nons, .slice R r.1.rows.length rc, .slice O r.1.of.length oc, .slice G r.1.gotos.length gc, .slice T r.1.to.length tc], .int .i64 r.2]) ∧
    PkOwn w' w.heap.size R O G T rc oc gc tc r.1 ∧ Below w.heap.size w w'
theorem PkOwn.zero (w : World) (base : Nat) : PkOwn w base none none none none 0 0 0 0 ⟨0, 0, [], [], [], []⟩ := ⟨OwnN.nil _ _ _ _ _ _, OwnR.nil _ _ _ _ _, OwnN.nil _ _ _ _ _ _, OwnR.nil _ _ _ _ _⟩

theorem PkOwn.far {w : World} {base : Nat} {R O G T : Option Addr} {rc oc gc tc : Nat} {p : Pk} {q : Nat} {cs : Array Value} (h : PkOwn w base R O G T rc oc gc tc p) (hq : Row w q 33 cs) (i : Nat) (u : Value) : PkOwn (w.setCell ⟨q, i, none⟩ u) base R O G T rc oc gc tc p :=
  ⟨h.1.far (grown_put _ _ _ _) hq (by decide) (by decide), h.2.1.far (grown_put _ _ _ _) hq (by decide), h.2.2.1.far (grown_put _ _ _ _) hq (by decide) (by decide), h.2.2.2.far (grown_put _ _ _ _) hq (by decide)⟩
theorem PkOwn.below {w w' : World} {base : Nat} {R O G T : Option Addr} {rc oc gc tc : Nat} {p : Pk} (h : PkOwn w base R O G T rc oc gc tc p) (hb : Below w.heap.size w w') : PkOwn w' base R O G T rc oc gc tc p :=
  ⟨h.1.below hb, h.2.1.below hb, h.2.2.1.below hb, h.2.2.2.below hb⟩
theorem below_put {w w' : World} {base p : Nat} (h : Below base w w') (hp : base ≤ p) (i : Nat) (u : Value) : Below base w (w'.setCell ⟨p, i, none⟩ u) := h.setCell (p := ⟨p, i, none⟩) hp u

theorem six_puts {w0 w : World} {base q : Nat} {R O G T : Option Addr} {rc oc gc tc : Nat} {p : Pk} {v0 v1 v2 v3 v4 v5 : Value} (hP : Row w q 33 #[v0, v1, v2, v3, v4, v5]) (hQ : PkOwn w base R O G T rc oc gc tc p) (hB : Below base w0 w) (hq : base ≤ q) :
    Row ((((((w.setCell ⟨q, 0, none⟩ v0).setCell ⟨q, 1, none⟩ v1).setCell ⟨q, 2, none⟩ v2).setCell ⟨q, 3, none⟩ v3).setCell ⟨q, 4, none⟩ v4).setCell ⟨q, 5, none⟩ v5) q 33 #[v0, v1, v2, v3, v4, v5] ∧
    PkOwn ((((((w.setCell ⟨q, 0, none⟩ v0).setCell ⟨q, 1, none⟩ v1).setCell ⟨q, 2, none⟩ v2).setCell ⟨q, 3, none⟩ v3).setCell ⟨q, 4, none⟩ v4).setCell ⟨q, 5, none⟩ v5) base R O G T rc oc gc tc p ∧
    Below base w0 ((((((w.setCell ⟨q, 0, none⟩ v0).setCell ⟨q, 1, none⟩ v1).setCell ⟨q, 2, none⟩ v2).setCell ⟨q, 3, none⟩ v3).setCell ⟨q, 4, none⟩ v4).setCell ⟨q, 5, none⟩ v5) :=
  have P1 := hP.put 0 v0
  have P2 := P1.put 1 v1
  have P3 := P2.put 2 v2
  have P4 := P3.put 3 v3
  have P5 := P4.put 4 v4
  ⟨P5.put 5 v5, (((((hQ.far hP 0 v0).far P1 1 v1).far P2 2 v2).far P3 3 v3).far P4 4 v4).far P5 5 v5, below_put (below_put (below_put (below_put (below_put (below_put hB hq 0 _) hq 1 _) hq 2 _) hq 3 _) hq 4 _) hq 5 _⟩

set_option maxHeartbeats 1000000 in
set_option maxRecDepth 100000 in
theorem pack_any (A B : Option Addr) (n m c d : Nat) (t : Tab) (w : World) (ha : Nest w 2 f2 A n t.acts) (hg : Nest w 1 f1 B m t.gots) (hm : m ≤ 1000000) :
    Calls Try.prog 11 #[.agg #[.slice A n c, .slice B m d]] w (PkPost w (packE t)) := by
  have b1 : Hid (Below w.heap.size w ((w.alloc (.cells #[.slice A n c, .slice B m d] 25)).alloc (.cells #[.int .i64 0, .int .i64 0, .slice none 0 0, .slice none 0 0, .slice none 0 0, .slice none 0 0] 33))) := ((Below.refl _ _).alloc (Nat.le_refl _) _).alloc (by simp) _
  have HA0 := hide ha
  have HG0 := hide hg
  have HA := hide (ha.below b1.out)
  have HG := hide (hg.below b1.out)
  have la := hide ha.1
  have lg := hide hg.1
  have r1 : Hid (Row ((w.alloc (.cells #[.slice A n c, .slice B m d] 25)).alloc (.cells #[.int .i64 0, .int .i64 0, .slice none 0 0, .slice none 0 0, .slice none 0 0, .slice none 0 0] 33)) w.heap.size 25 #[.slice A n c, .slice B m d]) := (Row.new _ _ _).alloc _
  have r2 : Hid (Row ((w.alloc (.cells #[.slice A n c, .slice B m d] 25)).alloc (.cells #[.int .i64 0, .int .i64 0, .slice none 0 0, .slice none 0 0, .slice none 0 0, .slice none 0 0] 33)) (w.heap.size + 1) 33 #[.int .i64 0, .int .i64 0, .slice none 0 0, .slice none 0 0, .slice none 0 0, .slice none 0 0]) := by
    have := Row.new (w.alloc (.cells #[.slice A n c, .slice B m d] 25)) 33 #[.int .i64 0, .int .i64 0, .slice none 0 0, .slice none 0 0, .slice none 0 0, .slice none 0 0]
    show Row _ _ _ _
    simpa using this
  have x0 := (r1.out.cell 0).trans (show _ = some (.slice A n c) from rfl)
  have x1 := (r1.out.cell 1).trans (show _ = some (.slice B m d) from rfl)
  clear ha hg
  by_cases h1 : n < 1
  · have t1 : decide ((n : Int) < 1) = true := by simp; omega
    have hres : Hid (packE t = (⟨0, 0, [], [], [], []⟩, 1)) := by show _ = _; unfold packE; rw [if_neg (by unfold shapedT; have := la.out; simp; omega)]
    clear h1
    go_enter Try.func11, Try.ntmps11
    go_wp2_with fail
    have d0 := (r2.out.cell 0).trans (show _ = some (.int .i64 0) from rfl)
    have d1 := (r2.out.cell 1).trans (show _ = some (.int .i64 0) from rfl)
    have d2 := (r2.out.cell 2).trans (show _ = some (.slice none 0 0) from rfl)
    have d3 := (r2.out.cell 3).trans (show _ = some (.slice none 0 0) from rfl)
    have d4 := (r2.out.cell 4).trans (show _ = some (.slice none 0 0) from rfl)
    have d5 := (r2.out.cell 5).trans (show _ = some (.slice none 0 0) from rfl)
    refine bodyPost_ret (v := .tuple #[.agg #[.int .i64 0, .int .i64 0, .slice none 0 0, .slice none 0 0, .slice none 0 0, .slice none 0 0], .int .i64 1]) (by simp [results, Try.results11, go_sem, d0, d1, d2, d3, d4, d5]) rfl ?_
    unfold PkPost
    rw [hres.out]
    exact ⟨none, none, none, none, 0, 0, 0, 0, rfl, PkOwn.zero _ _, b1.out⟩
  have t1 : decide ((n : Int) < 1) = false := by simp; omega
  by_cases h2 : 300 < n
  · have t2 : decide (300 < (n : Int)) = true := by simp; omega
    have hres : Hid (packE t = (⟨0, 0, [], [], [], []⟩, 1)) := by show _ = _; unfold packE; rw [if_neg (by unfold shapedT; have := la.out; simp; omega)]
    clear h2
    go_enter Try.func11, Try.ntmps11
    go_wp2_with fail
    have d0 := (r2.out.cell 0).trans (show _ = some (.int .i64 0) from rfl)
    have d1 := (r2.out.cell 1).trans (show _ = some (.int .i64 0) from rfl)
    have d2 := (r2.out.cell 2).trans (show _ = some (.slice none 0 0) from rfl)
    have d3 := (r2.out.cell 3).trans (show _ = some (.slice none 0 0) from rfl)
    have d4 := (r2.out.cell 4).trans (show _ = some (.slice none 0 0) from rfl)
    have d5 := (r2.out.cell 5).trans (show _ = some (.slice none 0 0) from rfl)
    refine bodyPost_ret (v := .tuple #[.agg #[.int .i64 0, .int .i64 0, .slice none 0 0, .slice none 0 0, .slice none 0 0, .slice none 0 0], .int .i64 1]) (by simp [results, Try.results11, go_sem, d0, d1, d2, d3, d4, d5]) rfl ?_
    unfold PkPost
    rw [hres.out]
    exact ⟨none, none, none, none, 0, 0, 0, 0, rfl, PkOwn.zero _ _, b1.out⟩
  have t2 : decide (300 < (n : Int)) = false := by simp; omega
  by_cases h3 : m = n
  · have t3 : ((m : Int) != (n : Int)) = false := by simp [h3]
    have m0 : (0 : Int) < (n : Int) := by omega
    have m1 : (0 : Int) < (m : Int) := by omega
    have h3' := hide h3
    clear h3
    have CA := even_26 A n c t.acts 1 25 ((w.alloc (.cells #[.slice A n c, .slice B m d] 25)).alloc (.cells #[.int .i64 0, .int .i64 0, .slice none 0 0, .slice none 0 0, .slice none 0 0, .slice none 0 0] 33)) HA.out (by omega)
    have CG := even_27 B m d t.gots 0 16 ((w.alloc (.cells #[.slice A n c, .slice B m d] 25)).alloc (.cells #[.int .i64 0, .int .i64 0, .slice none 0 0, .slice none 0 0, .slice none 0 0, .slice none 0 0] 33)) HG.out (by omega)
    cases he : evenL t.acts 1 25 with
    | false =>
      have hres : Hid (packE t = (⟨0, 0, [], [], [], []⟩, 1)) := by show _ = _; unfold packE; rw [if_neg (by unfold shapedT; simp [he])]
      rw [he] at CA
      clear he CG
      go_enter Try.func11, Try.ntmps11
      go_wp2_with fail
      refine CA.mono ?_
      rintro e w2 ⟨rfl, rfl⟩
      clear CA
      go_wp2_with fail
      have d0 := (r2.out.cell 0).trans (show _ = some (.int .i64 0) from rfl)
      have d1 := (r2.out.cell 1).trans (show _ = some (.int .i64 0) from rfl)
      have d2 := (r2.out.cell 2).trans (show _ = some (.slice none 0 0) from rfl)
      have d3 := (r2.out.cell 3).trans (show _ = some (.slice none 0 0) from rfl)
      have d4 := (r2.out.cell 4).trans (show _ = some (.slice none 0 0) from rfl)
      have d5 := (r2.out.cell 5).trans (show _ = some (.slice none 0 0) from rfl)
      refine bodyPost_ret (v := .tuple #[.agg #[.int .i64 0, .int .i64 0, .slice none 0 0, .slice none 0 0, .slice none 0 0, .slice none 0 0], .int .i64 1]) (by simp [results, Try.results11, go_sem, d0, d1, d2, d3, d4, d5]) rfl ?_
      unfold PkPost
      rw [hres.out]
      exact ⟨none, none, none, none, 0, 0, 0, 0, rfl, PkOwn.zero _ _, b1.out⟩
    | true =>
      rw [he] at CA
      cases hf : evenL t.gots 0 16 with
      | false =>
        have hres : Hid (packE t = (⟨0, 0, [], [], [], []⟩, 1)) := by show _ = _; unfold packE; rw [if_neg (by unfold shapedT; simp [hf])]
        rw [hf] at CG
        clear he hf
        go_enter Try.func11, Try.ntmps11
        go_wp2_with fail
        refine CA.mono ?_
        rintro e w2 ⟨rfl, rfl⟩
        clear CA
        go_wp2_with fail
        refine CG.mono ?_
        rintro e w2 ⟨rfl, rfl⟩
        clear CG
        go_wp2_with fail
        have d0 := (r2.out.cell 0).trans (show _ = some (.int .i64 0) from rfl)
        have d1 := (r2.out.cell 1).trans (show _ = some (.int .i64 0) from rfl)
        have d2 := (r2.out.cell 2).trans (show _ = some (.slice none 0 0) from rfl)
        have d3 := (r2.out.cell 3).trans (show _ = some (.slice none 0 0) from rfl)
        have d4 := (r2.out.cell 4).trans (show _ = some (.slice none 0 0) from rfl)
        have d5 := (r2.out.cell 5).trans (show _ = some (.slice none 0 0) from rfl)
        refine bodyPost_ret (v := .tuple #[.agg #[.int .i64 0, .int .i64 0, .slice none 0 0, .slice none 0 0, .slice none 0 0, .slice none 0 0], .int .i64 1]) (by simp [results, Try.results11, go_sem, d0, d1, d2, d3, d4, d5]) rfl ?_
        unfold PkPost
        rw [hres.out]
        exact ⟨none, none, none, none, 0, 0, 0, 0, rfl, PkOwn.zero _ _, b1.out⟩
      | true =>
        rw [hf] at CG
        have hres : Hid (packE t = (packT t, 0)) := by
          show _ = _
          unfold packE
          rw [if_pos (by unfold shapedT; have h4 := la.out; have h5 := lg.out; have h6 := h3'.out; simp [he, hf]; omega)]
        have hrowa : Hid (∀ r ∈ t.acts, r.length ≤ 1000) := fun r hr => by
          have := List.all_eq_true.1 he r hr
          simp only [evenR, Bool.and_eq_true, decide_eq_true_eq] at this
          omega
        have hrowg : Hid (∀ r ∈ t.gots, r.length ≤ 1000) := fun r hr => by
          have := List.all_eq_true.1 hf r hr
          simp only [evenR, Bool.and_eq_true, decide_eq_true_eq] at this
          omega
        clear he hf
        go_enter Try.func11, Try.ntmps11
        go_wp2_with fail
        refine CA.mono ?_
        rintro e w2 ⟨rfl, rfl⟩
        clear CA
        go_wp2_with fail
        refine CG.mono ?_
        rintro e w2 ⟨rfl, rfl⟩
        clear CG
        obtain ⟨b, o, ra, A0, c0, rfl, hra, z1, _, z3, z4⟩ := HA.out.at_ (show 0 < n by omega)
        obtain ⟨b', o', rg, B0, d0, rfl, hrg, y1, _, y3, y4⟩ := HG.out.at_ (show 0 < m by omega)
        rw [Nat.add_zero] at z1 y1
        have hra1 := hrowa.out ra (List.mem_of_getElem? hra)
        have hrg1 := hrowg.out rg (List.mem_of_getElem? hrg)
        obtain ⟨l1, o1, hs1⟩ : ∃ l o, shareF (fun r => entF r 0) t.acts [] [] = (l, o) := ⟨_, _, rfl⟩
        obtain ⟨l2, o2, hs2⟩ : ∃ l o, shareF (fun r => edgF r 0) t.gots [] [] = (l, o) := ⟨_, _, rfl⟩
        have S1 := hide hs1
        have S2 := hide hs2
        have hpa : Hid (packT t = ⟨(ra.length : Int) - 1, (rg.length : Int), l1, o1, l2, o2⟩) := by
          show _ = _
          unfold packT
          rw [hs1, hs2]
          rw [show t.acts.headD [] = ra by cases hx : t.acts with | nil => rw [hx] at hra; simp at hra | cons y l => rw [hx] at hra; simpa using hra]
          rw [show t.gots.headD [] = rg by cases hx : t.gots with | nil => rw [hx] at hrg; simp at hrg | cons y l => rw [hx] at hrg; simpa using hrg]
        clear hra hrg hs1 hs2
        have hbl : b < w.heap.size := by obtain ⟨b2, o2, _, _, _, e2, _, q2, _⟩ := HA0.out.at_ (show 0 < n by omega); injection e2 with e2; injection e2 with e2 _ _; rw [e2]; exact cell_lt q2
        have hbl' : b' < w.heap.size := by obtain ⟨b2, o2, _, _, _, e2, _, q2, _⟩ := HG0.out.at_ (show 0 < m by omega); injection e2 with e2; injection e2 with e2 _ _; rw [e2]; exact cell_lt q2
        have g1 : ¬ w.heap.size + 1 = b := by omega
        have g2 : ¬ b = w.heap.size + 1 := by omega
        have g3 : ¬ w.heap.size + 1 = b' := by omega
        have g4 : ¬ b' = w.heap.size + 1 := by omega
        go_wp2_with fail
        generalize ((w.alloc (.cells #[.slice (some ⟨b, o, none⟩) n c, .slice (some ⟨b', o', none⟩) m d] 25)).alloc (.cells #[.int .i64 0, .int .i64 0, .slice none 0 0, .slice none 0 0, .slice none 0 0, .slice none 0 0] 33)) = w9 at *
        have w0 := (r2.out.cell 0).trans (show _ = some (.int .i64 0) from rfl)
        have w1 := (r2.out.cell 1).trans (show _ = some (.int .i64 0) from rfl)
        have f0 := r2.out.frozen 0
        have f1' := r2.out.frozen 1
        go_region
        have B10 : Hid (Below w.heap.size w ((w9.setCell ⟨w.heap.size + 1, 0, none⟩ (.int .i64 ((ra.length : Int) - 1))).setCell ⟨w.heap.size + 1, 1, none⟩ (.int .i64 (rg.length : Int))).drew) := (below_put (below_put b1.out (by omega) 0 _) (by omega) 1 _).drew
        have P10 : Hid (Row ((w9.setCell ⟨w.heap.size + 1, 0, none⟩ (.int .i64 ((ra.length : Int) - 1))).setCell ⟨w.heap.size + 1, 1, none⟩ (.int .i64 (rg.length : Int))).drew (w.heap.size + 1) 33 #[.int .i64 ((ra.length : Int) - 1), .int .i64 (rg.length : Int), .slice none 0 0, .slice none 0 0, .slice none 0 0, .slice none 0 0]) := (r2.out.put 0 _).put 1 _
        have X10 : Hid (Row ((w9.setCell ⟨w.heap.size + 1, 0, none⟩ (.int .i64 ((ra.length : Int) - 1))).setCell ⟨w.heap.size + 1, 1, none⟩ (.int .i64 (rg.length : Int))).drew w.heap.size 25 #[.slice (some ⟨b, o, none⟩) n c, .slice (some ⟨b', o', none⟩) m d]) := (r1.out.far (p := ⟨w.heap.size + 1, 0, none⟩) (by show w.heap.size ≠ w.heap.size + 1; omega) _).far (p := ⟨w.heap.size + 1, 1, none⟩) (by show w.heap.size ≠ w.heap.size + 1; omega) _
        clear w0 w1 f0 f1' x0 x1 z1 y1 HA HG r1 r2 b1 z3 z4 y3 y4 g1 g2 g3 g4 m0 m1
        generalize ((w9.setCell ⟨w.heap.size + 1, 0, none⟩ (.int .i64 ((ra.length : Int) - 1))).setCell ⟨w.heap.size + 1, 1, none⟩ (.int .i64 (rg.length : Int))).drew = w10 at *
        have x0 := (X10.out.cell 0).trans (show _ = some (.slice (some ⟨b, o, none⟩) n c) from rfl)
        go_wp2_with fail
        clear x0
        have C28 := share_28 (some ⟨b, o, none⟩) n c t.acts w10 (HA0.out.below B10.out) (by omega) hrowa.out
        unfold SharePost at C28
        rw [S1.out] at C28
        dsimp only at C28
        refine C28.mono ?_
        rintro e w11 ⟨A1, c1, B1, d1, rfl, hN1, hO1, hbel1⟩
        have P11 := hide (P10.out.below hbel1 P10.out.lt)
        have X11 := hide (X10.out.below hbel1 X10.out.lt)
        have B11 := hide (below_both B10.out hbel1 B10.out.size)
        have hN1 := hide (hN1.mono B10.out.size)
        have hO1 := hide (hO1.mono B10.out.size)
        have d2 := (P11.out.cell 2).trans (show _ = some (.slice none 0 0) from rfl)
        have d3 := (P11.out.cell 3).trans (show _ = some (.slice none 0 0) from rfl)
        have f2 := P11.out.frozen 2
        have f3' := P11.out.frozen 3
        clear hbel1 P10 X10 B10 C28
        have B12 : Hid (Below w.heap.size w ((w11.setCell ⟨w.heap.size + 1, 2, none⟩ (.slice A1 l1.length c1)).setCell ⟨w.heap.size + 1, 3, none⟩ (.slice B1 o1.length d1))) := below_put (below_put B11.out (by omega) 2 _) (by omega) 3 _
        have P12 : Hid (Row ((w11.setCell ⟨w.heap.size + 1, 2, none⟩ (.slice A1 l1.length c1)).setCell ⟨w.heap.size + 1, 3, none⟩ (.slice B1 o1.length d1)) (w.heap.size + 1) 33 #[.int .i64 ((ra.length : Int) - 1), .int .i64 (rg.length : Int), .slice A1 l1.length c1, .slice B1 o1.length d1, .slice none 0 0, .slice none 0 0]) := (P11.out.put 2 _).put 3 _
        have X12 : Hid (Row ((w11.setCell ⟨w.heap.size + 1, 2, none⟩ (.slice A1 l1.length c1)).setCell ⟨w.heap.size + 1, 3, none⟩ (.slice B1 o1.length d1)) w.heap.size 25 #[.slice (some ⟨b, o, none⟩) n c, .slice (some ⟨b', o', none⟩) m d]) := (X11.out.far (p := ⟨w.heap.size + 1, 2, none⟩) (by show w.heap.size ≠ w.heap.size + 1; omega) _).far (p := ⟨w.heap.size + 1, 3, none⟩) (by show w.heap.size ≠ w.heap.size + 1; omega) _
        have hN2 := hide ((hN1.out.far (grown_put w11 (w.heap.size + 1) 2 (.slice A1 l1.length c1)) P11.out (by decide) (by decide)).far (grown_put _ (w.heap.size + 1) 3 (.slice B1 o1.length d1)) (P11.out.put 2 _) (by decide) (by decide))
        have hO2 := hide ((hO1.out.far (grown_put w11 (w.heap.size + 1) 2 (.slice A1 l1.length c1)) P11.out (by decide)).far (grown_put _ (w.heap.size + 1) 3 (.slice B1 o1.length d1)) (P11.out.put 2 _) (by decide))
        have x1 := (X12.out.cell 1).trans (show _ = some (.slice (some ⟨b', o', none⟩) m d) from rfl)
        clear P11 X11 B11 hN1 hO1
        go_wp2_with fail
        clear d2 d3 f2 f3' x1
        generalize (w11.setCell ⟨w.heap.size + 1, 2, none⟩ (.slice A1 l1.length c1)).setCell ⟨w.heap.size + 1, 3, none⟩ (.slice B1 o1.length d1) = w12 at *
        have C30 := share_30 (some ⟨b', o', none⟩) m d t.gots w12 (HG0.out.below B12.out) (by have := h3'.out; omega) hrowg.out
        unfold SharePost at C30
        rw [S2.out] at C30
        dsimp only at C30
        refine C30.mono ?_
        rintro e w13 ⟨A2, c2, B2, d2, rfl, hN3, hO3, hbel3⟩
        have P13 := hide (P12.out.below hbel3 P12.out.lt)
        have B13 := hide (below_both B12.out hbel3 B12.out.size)
        have hPk : Hid (PkOwn w13 w.heap.size A1 B1 A2 B2 c1 d1 c2 d2 ⟨(ra.length : Int) - 1, (rg.length : Int), l1, o1, l2, o2⟩) := ⟨hN2.out.below hbel3, hO2.out.below hbel3, hN3.mono B12.out.size, hO3.mono B12.out.size⟩
        have e4 := (P13.out.cell 4).trans (show _ = some (.slice none 0 0) from rfl)
        have e5 := (P13.out.cell 5).trans (show _ = some (.slice none 0 0) from rfl)
        have f4 := P13.out.frozen 4
        have f5 := P13.out.frozen 5
        clear hbel3 P12 X12 B12 hN2 hO2 hN3 hO3 C30
        have P14 : Hid (Row ((w13.setCell ⟨w.heap.size + 1, 4, none⟩ (.slice A2 l2.length c2)).setCell ⟨w.heap.size + 1, 5, none⟩ (.slice B2 o2.length d2)) (w.heap.size + 1) 33 #[.int .i64 ((ra.length : Int) - 1), .int .i64 (rg.length : Int), .slice A1 l1.length c1, .slice B1 o1.length d1, .slice A2 l2.length c2, .slice B2 o2.length d2]) := (P13.out.put 4 _).put 5 _
        have Q14 := hide ((hPk.out.far P13.out 4 (.slice A2 l2.length c2)).far (P13.out.put 4 _) 5 (.slice B2 o2.length d2))
        have B14 : Hid (Below w.heap.size w ((w13.setCell ⟨w.heap.size + 1, 4, none⟩ (.slice A2 l2.length c2)).setCell ⟨w.heap.size + 1, 5, none⟩ (.slice B2 o2.length d2))) := below_put (below_put B13.out (by omega) 4 _) (by omega) 5 _
        have p0 := (P13.out.cell 0).trans (show _ = some (.int .i64 ((ra.length : Int) - 1)) from rfl)
        have p1 := (P13.out.cell 1).trans (show _ = some (.int .i64 (rg.length : Int)) from rfl)
        have p2 := (P13.out.cell 2).trans (show _ = some (.slice A1 l1.length c1) from rfl)
        have p3 := (P13.out.cell 3).trans (show _ = some (.slice B1 o1.length d1) from rfl)
        have f0 := P13.out.frozen 0
        have f1' := P13.out.frozen 1
        have f2' := P13.out.frozen 2
        have f3' := P13.out.frozen 3
        clear P13 B13 hPk
        go_wp2_with fail
        obtain ⟨P15, Q15, B15⟩ := six_puts P14.out Q14.out B14.out (by omega)
        clear P14 Q14 B14 e4 e5 f4 f5 p0 p1 p2 p3 f0 f1' f2' f3'
        generalize (((((((w13.setCell ⟨w.heap.size + 1, 4, none⟩ (.slice A2 l2.length c2)).setCell ⟨w.heap.size + 1, 5, none⟩ (.slice B2 o2.length d2)).setCell ⟨w.heap.size + 1, 0, none⟩ (.int .i64 ((ra.length : Int) - 1))).setCell ⟨w.heap.size + 1, 1, none⟩ (.int .i64 (rg.length : Int))).setCell ⟨w.heap.size + 1, 2, none⟩ (.slice A1 l1.length c1)).setCell ⟨w.heap.size + 1, 3, none⟩ (.slice B1 o1.length d1)).setCell ⟨w.heap.size + 1, 4, none⟩ (.slice A2 l2.length c2)).setCell ⟨w.heap.size + 1, 5, none⟩ (.slice B2 o2.length d2) = w15 at *
        have i0 := (P15.cell 0).trans (show _ = some (.int .i64 ((ra.length : Int) - 1)) from rfl)
        have i1 := (P15.cell 1).trans (show _ = some (.int .i64 (rg.length : Int)) from rfl)
        have i2 := (P15.cell 2).trans (show _ = some (.slice A1 l1.length c1) from rfl)
        have i3 := (P15.cell 3).trans (show _ = some (.slice B1 o1.length d1) from rfl)
        have i4 := (P15.cell 4).trans (show _ = some (.slice A2 l2.length c2) from rfl)
        have i5 := (P15.cell 5).trans (show _ = some (.slice B2 o2.length d2) from rfl)
        refine bodyPost_ret (v := .tuple #[.agg #[.int .i64 ((ra.length : Int) - 1), .int .i64 (rg.length : Int), .slice A1 l1.length c1, .slice B1 o1.length d1, .slice A2 l2.length c2, .slice B2 o2.length d2], .int .i64 0]) (by simp [results, Try.results11, go_sem, i0, i1, i2, i3, i4, i5]) rfl ?_
        unfold PkPost
        rw [hres.out, hpa.out]
        exact ⟨A1, B1, A2, B2, c1, _, c2, _, rfl, Q15, B15⟩
  · have t3 : ((m : Int) != (n : Int)) = true := by simp; omega
    have hres : Hid (packE t = (⟨0, 0, [], [], [], []⟩, 1)) := by show _ = _; unfold packE; rw [if_neg (by unfold shapedT; have h4 := la.out; have h5 := lg.out; simp; omega)]
    clear h3
    go_enter Try.func11, Try.ntmps11
    go_wp2_with fail
    have d0 := (r2.out.cell 0).trans (show _ = some (.int .i64 0) from rfl)
    have d1 := (r2.out.cell 1).trans (show _ = some (.int .i64 0) from rfl)
    have d2 := (r2.out.cell 2).trans (show _ = some (.slice none 0 0) from rfl)
    have d3 := (r2.out.cell 3).trans (show _ = some (.slice none 0 0) from rfl)
    have d4 := (r2.out.cell 4).trans (show _ = some (.slice none 0 0) from rfl)
    have d5 := (r2.out.cell 5).trans (show _ = some (.slice none 0 0) from rfl)
    refine bodyPost_ret (v := .tuple #[.agg #[.int .i64 0, .int .i64 0, .slice none 0 0, .slice none 0 0, .slice none 0 0, .slice none 0 0], .int .i64 1]) (by simp [results, Try.results11, go_sem, d0, d1, d2, d3, d4, d5]) rfl ?_
    unfold PkPost
    rw [hres.out]
    exact ⟨none, none, none, none, 0, 0, 0, 0, rfl, PkOwn.zero _ _, b1.out⟩
end Go.Proofs.Ytfldbkioepcghaa
