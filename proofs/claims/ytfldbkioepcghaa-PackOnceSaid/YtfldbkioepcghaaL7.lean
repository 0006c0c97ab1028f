/- The walk of PackOnce. -/
import Derived.Test.YtfldbkioepcghaaL6
namespace Go.Proofs.Ytfldbkioepcghaa
open Go.RowKit
set_option linter.unusedVariables false

theorem wrap_next {i : Nat} (h : i ≤ 300) : IntKind.i64.wrap ((i : Int) + 1) = ((i + 1 : Nat) : Int) := by
  have key : ∀ i : Nat, i ≤ 300 → IntKind.i64.wrap ((i : Int) + 1) = ((i + 1 : Nat) : Int) := by decide +kernel
  exact key i h
/-- One row of rows. -/
theorem nest_sub {α : Type} {f : α → List Value} {k n i b o : Nat} {w : World} {ll : List (List α)} {r : List α} (h : Nest w k f (some ⟨b, o, none⟩) n ll) (hr : ll[i]? = some r) : Nest w k f (some ⟨b, o + i, none⟩) 1 [r] := by
  have hi : i < n := by
    have := (List.getElem?_eq_some_iff.1 hr).1
    rw [h.1] at this
    exact this
  obtain ⟨b2, o2, e, hc⟩ := h.2 (by omega)
  injection e with e
  injection e with e1 e2 _
  subst e1 e2
  refine ⟨rfl, fun _ => ⟨b, o + i, rfl, fun j x hx => ?_⟩⟩
  match j, hx with
  | 0, hx =>
    obtain rfl := Option.some.inj hx
    exact hc i r hr
  | j + 1, hx => simp at hx

set_option maxHeartbeats 4000000 in
set_option maxRecDepth 100000 in
theorem law_once (A B : Option Addr) (n m c d : Nat) (t : Tab) (w : World) (ht : TabAt w A B n m t) (hnc : n ≤ c) (hc : c ≤ 9223372036854775807) (hmd : m ≤ d) (hd : d ≤ 9223372036854775807) :
    Calls Try.prog 7 #[.agg #[.slice A n c, .slice B m d]] w fun e w' => e = .returned (.bool true) ∧ Below w.heap.size w w' := by
  have b1 := hide (below_alloc w (.cells #[.slice A n c, .slice B m d] 25))
  have R1 : Hid (Row (w.alloc (.cells #[.slice A n c, .slice B m d] 25)) w.heap.size 25 #[.slice A n c, .slice B m d]) := Row.new _ _ _
  have HT := hide (ht.below b1.out)
  have la : Hid (t.acts.length = n) := ht.acts.1
  have lg : Hid (t.gots.length = m) := ht.gots.1
  clear ht
  go_enter Try.func7, Try.ntmps7
  go_wp2_with fail
  generalize (w.alloc (.cells #[.slice A n c, .slice B m d] 25)) = w1 at *
  refine (alive18 w1).mono ?_
  rintro e w2 ⟨rfl, hb2⟩
  have b2 := hide (below_both b1.out hb2 b1.out.size)
  have R2 := hide (R1.out.below hb2 R1.out.lt)
  have HT2 := hide (HT.out.below hb2)
  clear R1 HT b1 hb2
  have x0 := (R2.out.cell 0).trans (show _ = some (.slice A n c) from rfl)
  have x1 := (R2.out.cell 1).trans (show _ = some (.slice B m d) from rfl)
  have C1 := great17_any A B n m c d t w2 HT2.out (Nat.le_trans hnc hc) (Nat.le_trans hmd hd)
  go_wp2_with fail
  clear x0 x1
  cases hg : greatT t with
  | true =>
    rw [hg] at C1
    refine C1.mono ?_
    rintro e w3 ⟨rfl, hb3⟩
    have b3 := hide (below_both b2.out hb3 b2.out.size)
    clear C1 hb3 hg
    go_wp2_with fail
    go_ret
    exact ⟨rfl, b3.out⟩
  | false =>
  rw [hg] at C1
  obtain ⟨g1, g2, _, _⟩ := greatT_parts hg
  have l1 : n ≤ 1000000 := by have := la.out; omega
  have l2 : m ≤ 1000000 := by have := lg.out; omega
  clear hg g1 g2
  refine C1.mono ?_
  rintro e w3 ⟨rfl, hb3⟩
  have b3 := hide (below_both b2.out hb3 b2.out.size)
  have R3 := hide (R2.out.below hb3 R2.out.lt)
  have HT3 := hide (HT2.out.below hb3)
  clear C1 hb3 R2 HT2 b2
  have x0 := (R3.out.cell 0).trans (show _ = some (.slice A n c) from rfl)
  have x1 := (R3.out.cell 1).trans (show _ = some (.slice B m d) from rfl)
  have C2 := pack_any A B n m c d t w3 HT3.out.acts HT3.out.gots l2
  go_wp2_with fail
  clear x0 x1
  cases hs : shapedT t with
  | false =>
    rw [packE_bad hs] at C2
    have C3 : Calls Try.prog 11 #[.agg #[.slice A n c, .slice B m d]] w3 (fun e w' => ∃ R O G T rc oc gc tc, e = .returned (.tuple #[.agg #[.int .i64 0, .int .i64 0, .slice R 0 rc, .slice O 0 oc, .slice G 0 gc, .slice T 0 tc], .int .i64 1]) ∧ PkOwn w' w3.heap.size R O G T rc oc gc tc ⟨0, 0, [], [], [], []⟩ ∧ Below w3.heap.size w3 w') := C2
    clear C2 hs
    refine C3.mono ?_
    rintro e w4 ⟨R, O, G, T, rc, oc, gc, tc, rfl, _, hb4⟩
    have b4 := hide ((below_both b3.out hb4 b3.out.size).alloc (Nat.le_trans b3.out.size hb4.size) (.cells #[.int .i64 0, .int .i64 0, .slice R 0 rc, .slice O 0 oc, .slice G 0 gc, .slice T 0 tc] 33))
    have R4 := Row.new w4 33 #[.int .i64 0, .int .i64 0, .slice R 0 rc, .slice O 0 oc, .slice G 0 gc, .slice T 0 tc]
    have y2 := (R4.cell 2).trans (show _ = some (.slice R 0 rc) from rfl)
    have y3 := (R4.cell 3).trans (show _ = some (.slice O 0 oc) from rfl)
    have y4 := (R4.cell 4).trans (show _ = some (.slice G 0 gc) from rfl)
    have y5 := (R4.cell 5).trans (show _ = some (.slice T 0 tc) from rfl)
    clear C3 hb4 R4
    go_wp2_with fail
    go_ret
    exact ⟨rfl, b4.out⟩
  | true =>
  rw [packE_good hs] at C2
  obtain ⟨s1, s2, s3, s4⟩ := pack_small hs
  obtain ⟨q1, q2, q3, _, _⟩ := shaped_parts hs
  have hac : Hid (∀ (i k : Nat) (r s : List (Int × Int)), t.acts[i]? = some r → t.acts[k]? = some s → ∃ a b : Nat, (packT t).of[i]? = some (a : Int) ∧ (packT t).of[k]? = some (b : Int) ∧ (a = b ↔ r = s)) := fun i k r s h1 h2 => once_acts hs h1 h2
  have hgo : Hid (∀ (i k : Nat) (r s : List Int), t.gots[i]? = some r → t.gots[k]? = some s → ∃ a b : Nat, (packT t).to[i]? = some (a : Int) ∧ (packT t).to[k]? = some (b : Int) ∧ (a = b ↔ r = s)) := fun i k r s h1 h2 => once_gots hs h1 h2
  unfold PkPost at C2
  dsimp only at C2
  generalize packT t = p at *
  have hmn : Hid (m = n) := by show _ = _; have h1 := la.out; have h2 := lg.out; omega
  have hn1 : 1 ≤ n := by have := la.out; omega
  have hn3 : n ≤ 300 := by have := la.out; omega
  have hof : Hid (p.of.length = n) := s3.trans la.out
  have hto : Hid (p.to.length = n) := s4.trans la.out
  clear hs q1 q2 q3 s3 s4
  simp only [hof.out, hto.out] at C2
  refine C2.mono ?_
  rintro e w4 ⟨R, O, G, T, rc, oc, gc, tc, rfl, hPk, hb4⟩
  have hP4 := hPk.at_
  rw [hof.out, hto.out] at hP4
  clear hPk C2
  have hb5 : Below w3.heap.size w3 (w4.alloc (.cells #[.int .i64 p.terms, .int .i64 p.nons, .slice R p.rows.length rc, .slice O n oc, .slice G p.gotos.length gc, .slice T n tc] 33)) := hb4.alloc hb4.size _
  have b5 := hide (below_both b3.out hb5 b3.out.size)
  have R5 := hide (R3.out.below hb5 R3.out.lt)
  have HT5 := hide (HT3.out.below hb5)
  have HP5 := hide (hP4.below (below_alloc w4 (.cells #[.int .i64 p.terms, .int .i64 p.nons, .slice R p.rows.length rc, .slice O n oc, .slice G p.gotos.length gc, .slice T n tc] 33)))
  have D5 : Hid (Row (w4.alloc (.cells #[.int .i64 p.terms, .int .i64 p.nons, .slice R p.rows.length rc, .slice O n oc, .slice G p.gotos.length gc, .slice T n tc] 33)) w4.heap.size 33 #[.int .i64 p.terms, .int .i64 p.nons, .slice R p.rows.length rc, .slice O n oc, .slice G p.gotos.length gc, .slice T n tc]) := Row.new _ _ _
  clear hb4 hb5 hP4 R3 HT3 b3
  obtain ⟨b, o, row0, A0, c0, rfl, _, _, _, _, _⟩ := HT5.out.acts.at_ (show 0 < n by omega)
  obtain ⟨b', o', got0, G0, d0, rfl, _, _, _, _, _⟩ := HT5.out.gots.at_ (show 0 < m by have := hmn.out; omega)
  obtain ⟨bo, oo, z0, rfl, _, _⟩ := HP5.out.of.at1 (show 0 < n by omega)
  obtain ⟨bt, ot, y0', rfl, _, _⟩ := HP5.out.to.at1 (show 0 < n by omega)
  have x0 := (R5.out.cell 0).trans (show _ = some (.slice (some ⟨b, o, none⟩) n c) from rfl)
  have x1 := (R5.out.cell 1).trans (show _ = some (.slice (some ⟨b', o', none⟩) m d) from rfl)
  have y0 := (D5.out.cell 0).trans (show _ = some (.int .i64 p.terms) from rfl)
  have y1 := (D5.out.cell 1).trans (show _ = some (.int .i64 p.nons) from rfl)
  have y2 := (D5.out.cell 2).trans (show _ = some (.slice R p.rows.length rc) from rfl)
  have y3 := (D5.out.cell 3).trans (show _ = some (.slice (some ⟨bo, oo, none⟩) n oc) from rfl)
  have y4 := (D5.out.cell 4).trans (show _ = some (.slice G p.gotos.length gc) from rfl)
  have y5 := (D5.out.cell 5).trans (show _ = some (.slice (some ⟨bt, ot, none⟩) n tc) from rfl)
  have tmn : ((n : Int) != (m : Int)) = false := by have := hmn.out; simp; omega
  go_wp2_with fail
  clear x0 x1 y0 y1 y2 y3 y4 y5
  generalize (w4.alloc (.cells #[.int .i64 p.terms, .int .i64 p.nons, .slice R p.rows.length rc, .slice (some ⟨bo, oo, none⟩) n oc, .slice G p.gotos.length gc, .slice (some ⟨bt, ot, none⟩) n tc] 33)) = w5 at *
  generalize w4.heap.size = p5 at *
  go_loopw [5] (fun v wr => ∃ i : Nat, i ≤ n ∧ v = .int .i64 i ∧ Hid (Below w5.heap.size w5 wr)) (fun v _ => n - (intOf v).toNat)
  case atStart => exact ⟨0, by omega, rfl, Below.refl _ _⟩
  case round =>
    obtain ⟨i, hi, rfl, hb⟩ := hrel
    have Ri := hide (R5.out.below hb.out R5.out.lt)
    have x0 := (Ri.out.cell 0).trans (show _ = some (.slice (some ⟨b, o, none⟩) n c) from rfl)
    by_cases hlt : i < n
    · have hlt' : decide ((i : Int) < (n : Int)) = true := by simp; omega
      have hltp : (i : Int) < (n : Int) := by omega
      have hltm : (i : Int) < (m : Int) := by have := hmn.out; omega
      go_wp2_with fail
      clear x0 Ri
      go_loopw [6] (fun v wr => ∃ k : Nat, k ≤ i ∧ v = .int .i64 k ∧ Hid (Below w5.heap.size w5 wr)) (fun v _ => i - (intOf v).toNat)
      case atStart => exact ⟨0, by omega, rfl, hb⟩
      case round =>
        clear hb
        obtain ⟨k, hk, rfl, hb⟩ := hrel
        by_cases hlk : k < i
        · have hlk' : decide ((k : Int) < (i : Int)) = true := by simp; omega
          have hlkp : (k : Int) < (i : Int) := by omega
          have hkn : (k : Int) < (n : Int) := by omega
          have hkm : (k : Int) < (m : Int) := by have := hmn.out; omega
          obtain ⟨_, _, ri, _, _, hzri, hri, hy1, hy2, hy3, hy4⟩ := HT5.out.acts.at_ hlt
          clear hy1 hy2 hy3 hy4
          obtain ⟨_, _, rk, _, _, hzrk, hrk, hy1, hy2, hy3, hy4⟩ := HT5.out.acts.at_ (show k < n by omega)
          clear hy1 hy2 hy3 hy4
          obtain ⟨_, _, gi, _, _, hzgi, hgi, hy1, hy2, hy3, hy4⟩ := HT5.out.gots.at_ (show i < m by have := hmn.out; omega)
          clear hy1 hy2 hy3 hy4
          obtain ⟨_, _, gk, _, _, hzgk, hgk, hy1, hy2, hy3, hy4⟩ := HT5.out.gots.at_ (show k < m by have := hmn.out; omega)
          clear hy1 hy2 hy3 hy4
          clear hzri hzrk hzgi hzgk
          obtain ⟨fa, fb, ha, hb1, hab⟩ := hac.out i k ri rk hri hrk
          obtain ⟨ga, gb, hga, hgb, hgab⟩ := hgo.out i k gi gk hgi hgk
          have NI := hide (nest_sub HT5.out.acts hri)
          have NK := hide (nest_sub HT5.out.acts hrk)
          have MI := hide (nest_sub HT5.out.gots hgi)
          have MK := hide (nest_sub HT5.out.gots hgk)
          obtain ⟨_, _, v1, e1, f1', c1⟩ := HP5.out.of.at1 hlt
          obtain ⟨_, _, v2, e2, f2', c2⟩ := HP5.out.of.at1 (show k < n by omega)
          obtain ⟨_, _, v3, e3, f3', c3⟩ := HP5.out.to.at1 hlt
          obtain ⟨_, _, v4, e4, f4', c4⟩ := HP5.out.to.at1 (show k < n by omega)
          injection e1 with e1
          injection e1 with ea eb _
          subst ea eb
          injection e2 with e2
          injection e2 with ea eb _
          subst ea eb
          injection e3 with e3
          injection e3 with ea eb _
          subst ea eb
          injection e4 with e4
          injection e4 with ea eb _
          subst ea eb
          obtain rfl : v1 = (fa : Int) := Option.some.inj (f1'.symm.trans ha)
          obtain rfl : v2 = (fb : Int) := Option.some.inj (f2'.symm.trans hb1)
          obtain rfl : v3 = (ga : Int) := Option.some.inj (f3'.symm.trans hga)
          obtain rfl : v4 = (gb : Int) := Option.some.inj (f4'.symm.trans hgb)
          have c1 := hide c1
          have c2 := hide c2
          have c3 := hide c3
          have c4 := hide c4
          have hab := hide hab
          have hgab := hide hgab
          clear hri hrk hgi hgk ha hb1 hga hgb f1' f2' f3' f4'
          have Ri := hide (R5.out.below hb.out R5.out.lt)
          have X0 : ∀ W, Ext wr W → W.cell? ⟨w.heap.size, 0, none⟩ = some (.slice (some ⟨b, o, none⟩) n c) := fun W hW => (hW.cell Ri.out.lt).trans ((Ri.out.cell 0).trans rfl)
          have hi1 : i + 1 ≤ c := by omega
          have hk1 : k + 1 ≤ c := by omega
          have hi2 : i + 1 ≤ d := by have := hmn.out; omega
          have hk2 : k + 1 ≤ d := by have := hmn.out; omega
          have hi0 : 0 ≤ (i : Int) + 1 := by omega
          have hk0 : 0 ≤ (k : Int) + 1 := by omega
          have hi3 : (i : Int) + 1 ≤ (c : Int) := by omega
          have hk3 : (k : Int) + 1 ≤ (c : Int) := by omega
          have hi4 : (i : Int) + 1 ≤ (d : Int) := by omega
          have hk4 : (k : Int) + 1 ≤ (d : Int) := by omega
          have hci : ¬ c = i := by omega
          have hck : ¬ c = k := by omega
          have hdi : ¬ d = i := by omega
          have hdk : ¬ d = k := by omega
          have hwi : IntKind.i64.wrap ((i : Int) + 1) = ((i + 1 : Nat) : Int) := wrap_next (by omega)
          have hwk : IntKind.i64.wrap ((k : Int) + 1) = ((k + 1 : Nat) : Int) := wrap_next (by omega)
          go_wp2_with fail
          refine wp_region_seq [(0, false), (1, false), (2, false), (3, false), (4, false), (5, false), (6, false), (7, false), (8, false), (9, false), (10, false), (11, false), (12, false), (13, false), (14, true), (15, false)]
            (by kernel_rfl) (by kernel_rfl) (by kernel_rfl) rfl (by kernel_rfl) (fun _ _ d _ _ h => by cases d <;> exact h) ?_
          simp only [List.map_cons, List.map_nil, List.getElem?_cons_succ, List.getElem?_cons_zero, Option.getD_some]
          iterate 14 (refine wpSeq_take rfl rfl (fun W hW => (by have eX0 := X0 W hW; go_simp; with_reducible rfl)) ?_; simp only [List.setIfInBounds_toArray, List.set_cons_zero, List.set_cons_succ])
          clear X0
          have CA := same17_any (some ⟨b, o + i, none⟩) none (some ⟨b, o + k, none⟩) none 1 0 (c - i) 0 1 0 (c - k) 0 ⟨[ri], []⟩ ⟨[rk], []⟩ wr.drew ⟨NI.out.below (show Below w5.heap.size w5 wr.drew from hb.out.drew), Nest.nil _ _⟩ ⟨NK.out.below (show Below w5.heap.size w5 wr.drew from hb.out.drew), Nest.nil _ _⟩ (by omega) (by omega) (by omega) (by omega)
          rw [show decide ((⟨[ri], []⟩ : Tab) = ⟨[rk], []⟩) = decide (ri = rk) from by simp] at CA
          have hbd : Below w5.heap.size w5 wr.drew := hb.out.drew
          refine wpSeq_alone rfl (fun K hK => ?_)
          go_wp2_with fail
          refine CA.mono ?_
          rintro e w6 ⟨rfl, hb6⟩
          have hbe : Hid (Below w5.heap.size w5 w6) := below_both hbd hb6 hbd.size
          refine hK _ _ w6 (below_both (Ext.drew wr) hb6 (Nat.le_refl _)) (Ext.refl _) ?_
          clear hK K CA hb6 hbd hb Ri
          iterate 1 (refine wpSeq_take rfl rfl (fun W hW => (by go_simp; with_reducible rfl)) ?_; simp only [List.setIfInBounds_toArray, List.set_cons_zero, List.set_cons_succ])
          refine wpSeq_nil ?_
          have Ri := hide (R5.out.below hbe.out R5.out.lt)
          have X0 : ∀ W, Ext w6 W → W.cell? ⟨w.heap.size, 1, none⟩ = some (.slice (some ⟨b', o', none⟩) m d) := fun W hW => (hW.cell Ri.out.lt).trans ((Ri.out.cell 1).trans rfl)
          go_wp2_with fail
          refine wp_region_seq [(0, false), (1, false), (2, false), (3, false), (4, false), (5, false), (6, false), (7, false), (8, false), (9, false), (10, false), (11, false), (12, false), (13, false), (14, true), (15, false)]
            (by kernel_rfl) (by kernel_rfl) (by kernel_rfl) rfl (by kernel_rfl) (fun _ _ d _ _ h => by cases d <;> exact h) ?_
          simp only [List.map_cons, List.map_nil, List.getElem?_cons_succ, List.getElem?_cons_zero, Option.getD_some]
          iterate 14 (refine wpSeq_take rfl rfl (fun W hW => (by have eX0 := X0 W hW; go_simp; with_reducible rfl)) ?_; simp only [List.setIfInBounds_toArray, List.set_cons_zero, List.set_cons_succ])
          clear X0
          have CA := same17_any none (some ⟨b', o' + i, none⟩) none (some ⟨b', o' + k, none⟩) 0 1 0 (d - i) 0 1 0 (d - k) ⟨[], [gi]⟩ ⟨[], [gk]⟩ w6.drew ⟨Nest.nil _ _, MI.out.below (show Below w5.heap.size w5 w6.drew from hbe.out.drew)⟩ ⟨Nest.nil _ _, MK.out.below (show Below w5.heap.size w5 w6.drew from hbe.out.drew)⟩ (by omega) (by omega) (by omega) (by omega)
          rw [show decide ((⟨[], [gi]⟩ : Tab) = ⟨[], [gk]⟩) = decide (gi = gk) from by simp] at CA
          have hbd : Below w5.heap.size w5 w6.drew := hbe.out.drew
          refine wpSeq_alone rfl (fun K hK => ?_)
          go_wp2_with fail
          refine CA.mono ?_
          rintro e w7 ⟨rfl, hb7⟩
          have hbf : Hid (Below w5.heap.size w5 w7) := below_both hbd hb7 hbd.size
          refine hK _ _ w7 (below_both (Ext.drew w6) hb7 (Nat.le_refl _)) (Ext.refl _) ?_
          clear hK K CA hb7 hbd hbe Ri
          iterate 1 (refine wpSeq_take rfl rfl (fun W hW => (by go_simp; with_reducible rfl)) ?_; simp only [List.setIfInBounds_toArray, List.set_cons_zero, List.set_cons_succ])
          refine wpSeq_nil ?_
          have Di := hide (D5.out.below hbf.out D5.out.lt)
          have c1 := (hbf.out.cell (cell_lt c1.out)).trans c1.out
          have c2 := (hbf.out.cell (cell_lt c2.out)).trans c2.out
          have c3 := (hbf.out.cell (cell_lt c3.out)).trans c3.out
          have c4 := (hbf.out.cell (cell_lt c4.out)).trans c4.out
          have X0 : ∀ W, Ext w7 W → W.cell? ⟨p5, 3, none⟩ = some (.slice (some ⟨bo, oo, none⟩) n oc) := fun W hW => (hW.cell Di.out.lt).trans ((Di.out.cell 3).trans rfl)
          have X1 : ∀ W, Ext w7 W → W.cell? ⟨p5, 5, none⟩ = some (.slice (some ⟨bt, ot, none⟩) n tc) := fun W hW => (hW.cell Di.out.lt).trans ((Di.out.cell 5).trans rfl)
          have X2 : ∀ W, Ext w7 W → W.cell? ⟨bo, oo + i, none⟩ = some (.int .i64 (fa : Int)) := fun W hW => (hW.cell (cell_lt c1)).trans c1
          have X3 : ∀ W, Ext w7 W → W.cell? ⟨bo, oo + k, none⟩ = some (.int .i64 (fb : Int)) := fun W hW => (hW.cell (cell_lt c2)).trans c2
          have X4 : ∀ W, Ext w7 W → W.cell? ⟨bt, ot + i, none⟩ = some (.int .i64 (ga : Int)) := fun W hW => (hW.cell (cell_lt c3)).trans c3
          have X5 : ∀ W, Ext w7 W → W.cell? ⟨bt, ot + k, none⟩ = some (.int .i64 (gb : Int)) := fun W hW => (hW.cell (cell_lt c4)).trans c4
          clear c1 c2 c3 c4 Di hwi hwk
          have hbg : Hid (Below w5.heap.size w5 w7.drew) := hbf.out.drew
          have hva : ((fa : Int) == (fb : Int)) = decide (ri = rk) := by
            have h := hab.out
            by_cases hh : ri = rk
            · rw [decide_eq_true hh, h.2 hh]; simp
            · rw [decide_eq_false hh]
              have : fa ≠ fb := fun e => hh (h.1 e)
              simp; omega
          have hvb : ((ga : Int) == (gb : Int)) = decide (gi = gk) := by
            have h := hgab.out
            by_cases hh : gi = gk
            · rw [decide_eq_true hh, h.2 hh]; simp
            · rw [decide_eq_false hh]
              have : ga ≠ gb := fun e => hh (h.1 e)
              simp; omega
          generalize decide (ri = rk) = sa at *
          generalize decide (gi = gk) = sb at *
          go_wp2_with fail
          cases sa <;> cases sb
          all_goals (
            refine wp_region_seq [(0, false), (1, false), (2, false), (3, false), (4, false), (5, false), (6, false), (7, false), (8, false), (9, false), (10, false), (11, false), (12, false), (13, false), (14, false), (15, false), (16, false), (17, false), (18, false), (19, false), (20, false), (21, false), (22, false), (23, false), (24, false), (25, false), (26, false), (27, false)]
              (by kernel_rfl) (by kernel_rfl) (by kernel_rfl) rfl (by kernel_rfl) (fun _ _ d _ _ h => by cases d <;> exact h) ?_
            simp only [List.map_cons, List.map_nil, List.getElem?_cons_succ, List.getElem?_cons_zero, Option.getD_some]
            iterate 28 (first
              | (refine wpSeq_take rfl rfl (fun W hW => (by have eX0 := X0 W hW; have eX1 := X1 W hW; have eX2 := X2 W hW; have eX3 := X3 W hW; have eX4 := X4 W hW; have eX5 := X5 W hW; go_simp; with_reducible rfl)) ?_; simp only [List.setIfInBounds_toArray, List.set_cons_zero, List.set_cons_succ])
              | (refine wpSeq_skip rfl rfl ?_; simp only [List.setIfInBounds_toArray, List.set_cons_zero, List.set_cons_succ]))
            refine wpSeq_nil ?_
            clear X0 X1 X2 X3 X4 X5 hva hvb
            go_wp2_with fail
            exact ⟨⟨k + 1, by omega, by go_num, hbg⟩, by simp [intOf]; omega⟩)
        · have hlk' : decide ((k : Int) < (i : Int)) = false := by simp; omega
          go_wp2_with fail
          exact ⟨⟨i + 1, by omega, by go_num, hb⟩, by simp [intOf]; omega⟩
    · have hlt' : decide ((i : Int) < (n : Int)) = false := by simp; omega
      go_wp2_with fail
      go_ret
      exact ⟨rfl, below_both b5.out hb.out b5.out.size⟩
end Go.Proofs.Ytfldbkioepcghaa
