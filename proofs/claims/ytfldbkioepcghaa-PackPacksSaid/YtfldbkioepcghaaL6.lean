/- The walk of PackBack. -/
import Derived.Test.YtfldbkioepcghaaT18
import Derived.Test.YtfldbkioepcghaaL5
namespace Go.Proofs.Ytfldbkioepcghaa
open Go.RowKit
set_option linter.unusedVariables false

theorem greatT_parts {t : Tab} (h : greatT t = false) : t.acts.length ≤ 310 ∧ t.gots.length ≤ 310 ∧ (∀ r ∈ t.acts, r.length ≤ 50) ∧ ∀ r ∈ t.gots, r.length ≤ 50 := by
  unfold greatT at h
  simp only [Bool.or_eq_false_iff, decide_eq_false_iff_not] at h
  obtain ⟨h1, h2, h3, h4⟩ := h
  refine ⟨by omega, by omega, fun r hr => ?_, fun r hr => ?_⟩
  · have := List.any_eq_false.1 h3 r hr
    simp [longR] at this
    exact this
  · have := List.any_eq_false.1 h4 r hr
    simp [longR] at this
    exact this
theorem packE_bad {t : Tab} (h : shapedT t = false) : packE t = (⟨0, 0, [], [], [], []⟩, 1) := by
  unfold packE
  rw [h]
  rfl
theorem packE_good {t : Tab} (h : shapedT t = true) : packE t = (packT t, 0) := by
  unfold packE
  rw [if_pos h]
theorem pack_small {t : Tab} (h : shapedT t = true) : (packT t).rows.length ≤ 300 ∧ (packT t).gotos.length ≤ 300 ∧ (packT t).of.length = t.acts.length ∧ (packT t).to.length = t.acts.length := by
  obtain ⟨h1, h2, h3, h4, h5⟩ := shaped_parts h
  obtain ⟨s1, s2, _⟩ := share_spec (fun r => entF r 0) t.acts
  obtain ⟨g1, g2, _⟩ := share_spec (fun r => edgF r 0) t.gots
  exact ⟨Nat.le_trans s2 h2, Nat.le_trans g2 (by omega), s1, g1.trans h3⟩

set_option maxHeartbeats 4000000 in
set_option maxRecDepth 100000 in
theorem law_back (A B : Option Addr) (n m c d : Nat) (t : Tab) (w : World) (ht : TabAt w A B n m t) (hn : n ≤ 9223372036854775807) (hm : m ≤ 9223372036854775807) :
    Calls Try.prog 6 #[.agg #[.slice A n c, .slice B m d]] w fun e w' => e = .returned (.bool true) ∧ Below w.heap.size w w' := by
  have b1 := hide (below_alloc w (.cells #[.slice A n c, .slice B m d] 25))
  have R1 : Hid (Row (w.alloc (.cells #[.slice A n c, .slice B m d] 25)) w.heap.size 25 #[.slice A n c, .slice B m d]) := Row.new _ _ _
  have HT := hide (ht.below b1.out)
  have la : Hid (t.acts.length = n) := ht.acts.1
  have lg : Hid (t.gots.length = m) := ht.gots.1
  clear ht
  go_enter Try.func6, Try.ntmps6
  go_wp2_with fail
  generalize (w.alloc (.cells #[.slice A n c, .slice B m d] 25)) = w1 at *
  refine (alive18 w1).mono ?_
  rintro e w2 ⟨rfl, hb2⟩
  have b2 := hide (below_both b1.out hb2 b1.out.size)
  have R2 := hide (R1.out.below hb2 R1.out.lt)
  have HT2 := hide (HT.out.below hb2)
  clear R1 HT b1 hb2
  have x0 := (R2.out.cell 0).trans (show _ = some (.slice A n c) from rfl)
  have x1 := (R2.out.cell 1).trans (show _ = some (.slice B m d) from rfl)
  have C1 := great17_any A B n m c d t w2 HT2.out hn hm
  go_wp2_with fail
  clear x0 x1
  cases hg : greatT t with
  | true =>
    rw [hg] at C1
    refine C1.mono ?_
    rintro e w3 ⟨rfl, hb3⟩
    have b3 := hide (below_both b2.out hb3 b2.out.size)
    clear C1 hb3 hg
    go_wp2_with fail
    go_ret
    exact ⟨rfl, b3.out⟩
  | false =>
  rw [hg] at C1
  obtain ⟨g1, g2, _, _⟩ := greatT_parts hg
  have l1 : n ≤ 1000000 := by have := la.out; omega
  have l2 : m ≤ 1000000 := by have := lg.out; omega
  clear hg g1 g2
  refine C1.mono ?_
  rintro e w3 ⟨rfl, hb3⟩
  have b3 := hide (below_both b2.out hb3 b2.out.size)
  have R3 := hide (R2.out.below hb3 R2.out.lt)
  have HT3 := hide (HT2.out.below hb3)
  clear C1 hb3 R2 HT2 b2
  have x0 := (R3.out.cell 0).trans (show _ = some (.slice A n c) from rfl)
  have x1 := (R3.out.cell 1).trans (show _ = some (.slice B m d) from rfl)
  have C2 := pack_any A B n m c d t w3 HT3.out.acts HT3.out.gots l2
  go_wp2_with fail
  clear x0 x1
  cases hs : shapedT t with
  | false =>
    rw [packE_bad hs] at C2
    have C3 : Calls Try.prog 11 #[.agg #[.slice A n c, .slice B m d]] w3 (fun e w' => ∃ R O G T rc oc gc tc, e = .returned (.tuple #[.agg #[.int .i64 0, .int .i64 0, .slice R 0 rc, .slice O 0 oc, .slice G 0 gc, .slice T 0 tc], .int .i64 1]) ∧ PkOwn w' w3.heap.size R O G T rc oc gc tc ⟨0, 0, [], [], [], []⟩ ∧ Below w3.heap.size w3 w') := C2
    clear C2 hs
    refine C3.mono ?_
    rintro e w4 ⟨R, O, G, T, rc, oc, gc, tc, rfl, _, hb4⟩
    have b4 := hide ((below_both b3.out hb4 b3.out.size).alloc (Nat.le_trans b3.out.size hb4.size) (.cells #[.int .i64 0, .int .i64 0, .slice R 0 rc, .slice O 0 oc, .slice G 0 gc, .slice T 0 tc] 33))
    have R4 := Row.new w4 33 #[.int .i64 0, .int .i64 0, .slice R 0 rc, .slice O 0 oc, .slice G 0 gc, .slice T 0 tc]
    have y2 := (R4.cell 2).trans (show _ = some (.slice R 0 rc) from rfl)
    have y3 := (R4.cell 3).trans (show _ = some (.slice O 0 oc) from rfl)
    have y4 := (R4.cell 4).trans (show _ = some (.slice G 0 gc) from rfl)
    have y5 := (R4.cell 5).trans (show _ = some (.slice T 0 tc) from rfl)
    clear C3 hb4 R4
    go_wp2_with fail
    go_ret
    exact ⟨rfl, b4.out⟩
  | true =>
  rw [packE_good hs] at C2
  obtain ⟨s1, s2, s3, s4⟩ := pack_small hs
  obtain ⟨q1, q2, q3, _, _⟩ := shaped_parts hs
  have hun : Hid (unpackE (packT t) = (t, 0)) := by show _ = _; unfold unpackE; rw [if_pos (pack_right hs), unpack_pack hs]
  have hri : Hid (rightP (packT t) = true) := pack_right hs
  have hac : Hid (∀ (i k : Nat) (r : List (Int × Int)) (x : Int × Int), t.acts[i]? = some r → r[k]? = some x → actP (packT t) (i : Int) (k : Int) = x) := fun i k r x h1 h2 => act_pack hs h1 h2
  have hgo : Hid (∀ (i k : Nat) (r : List Int) (x : Int), t.gots[i]? = some r → r[k]? = some x → gotP (packT t) (i : Int) (k : Int) = x) := fun i k r x h1 h2 => got_pack hs h1 h2
  unfold PkPost at C2
  dsimp only at C2
  generalize packT t = p at *
  have hmn : Hid (m = n) := by show _ = _; have h1 := la.out; have h2 := lg.out; omega
  have hn1 : 1 ≤ n := by have := la.out; omega
  have hn3 : n ≤ 300 := by have := la.out; omega
  have hof : Hid (p.of.length = n) := s3.trans la.out
  have hto : Hid (p.to.length = n) := s4.trans la.out
  clear hs q1 q2 q3 s3 s4
  simp only [hof.out, hto.out] at C2
  refine C2.mono ?_
  rintro e w4 ⟨R, O, G, T, rc, oc, gc, tc, rfl, hPk, hb4⟩
  have hP4 := hPk.at_
  rw [hof.out, hto.out] at hP4
  clear hPk C2
  have hb5 : Below w3.heap.size w3 (w4.alloc (.cells #[.int .i64 p.terms, .int .i64 p.nons, .slice R p.rows.length rc, .slice O n oc, .slice G p.gotos.length gc, .slice T n tc] 33)) := hb4.alloc hb4.size _
  have b5 := hide (below_both b3.out hb5 b3.out.size)
  have R5 := hide (R3.out.below hb5 R3.out.lt)
  have HT5 := hide (HT3.out.below hb5)
  have HP5 := hide (hP4.below (below_alloc w4 (.cells #[.int .i64 p.terms, .int .i64 p.nons, .slice R p.rows.length rc, .slice O n oc, .slice G p.gotos.length gc, .slice T n tc] 33)))
  have D5 : Hid (Row (w4.alloc (.cells #[.int .i64 p.terms, .int .i64 p.nons, .slice R p.rows.length rc, .slice O n oc, .slice G p.gotos.length gc, .slice T n tc] 33)) w4.heap.size 33 #[.int .i64 p.terms, .int .i64 p.nons, .slice R p.rows.length rc, .slice O n oc, .slice G p.gotos.length gc, .slice T n tc]) := Row.new _ _ _
  have C3 := unpack_any R O G T p.rows.length n p.gotos.length n rc oc gc tc p (w4.alloc (.cells #[.int .i64 p.terms, .int .i64 p.nons, .slice R p.rows.length rc, .slice O n oc, .slice G p.gotos.length gc, .slice T n tc] 33)) HP5.out (by omega) (by omega) (by omega) (by omega)
  unfold UnPost at C3
  rw [hun.out] at C3
  dsimp only at C3
  simp only [la.out, lg.out, hmn.out] at C3
  clear hb4 hb5 hP4 R3 HT3 b3
  have y0 := (D5.out.cell 0).trans (show _ = some (.int .i64 p.terms) from rfl)
  have y1 := (D5.out.cell 1).trans (show _ = some (.int .i64 p.nons) from rfl)
  have y2 := (D5.out.cell 2).trans (show _ = some (.slice R p.rows.length rc) from rfl)
  have y3 := (D5.out.cell 3).trans (show _ = some (.slice O n oc) from rfl)
  have y4 := (D5.out.cell 4).trans (show _ = some (.slice G p.gotos.length gc) from rfl)
  have y5 := (D5.out.cell 5).trans (show _ = some (.slice T n tc) from rfl)
  go_wp2_with fail
  clear y0 y1 y2 y3 y4 y5
  generalize (w4.alloc (.cells #[.int .i64 p.terms, .int .i64 p.nons, .slice R p.rows.length rc, .slice O n oc, .slice G p.gotos.length gc, .slice T n tc] 33)) = w5 at *
  generalize w4.heap.size = p5 at *
  refine C3.mono ?_
  rintro e w6 ⟨A6, c6, B6, d6, rfl, hN6, hM6, hb6⟩
  have hb7 : Below w5.heap.size w5 (w6.alloc (.cells #[.slice A6 n c6, .slice B6 n d6] 25)) := hb6.alloc hb6.size _
  have b7 := hide (below_both b5.out hb7 b5.out.size)
  have R7 := hide (R5.out.below hb7 R5.out.lt)
  have HT7 := hide (HT5.out.below hb7)
  have HP7 := hide (HP5.out.below hb7)
  have D7 := hide (D5.out.below hb7 D5.out.lt)
  have HU7 : Hid (TabAt (w6.alloc (.cells #[.slice A6 n c6, .slice B6 n d6] 25)) A6 B6 n n t) := by
    have h1 := hN6.nest
    have h2 := hM6.nest
    rw [la.out] at h1
    rw [lg.out, hmn.out] at h2
    exact TabAt.below (w := w6) ⟨h1, h2⟩ (below_alloc _ _)
  have E7 : Hid (Row (w6.alloc (.cells #[.slice A6 n c6, .slice B6 n d6] 25)) w6.heap.size 25 #[.slice A6 n c6, .slice B6 n d6]) := Row.new _ _ _
  clear C3 hb6 hb7 hN6 hM6 R5 HT5 HP5 D5 b5
  have u0 := (E7.out.cell 0).trans (show _ = some (.slice A6 n c6) from rfl)
  have u1 := (E7.out.cell 1).trans (show _ = some (.slice B6 n d6) from rfl)
  have x0 := (R7.out.cell 0).trans (show _ = some (.slice A n c) from rfl)
  have x1 := (R7.out.cell 1).trans (show _ = some (.slice B m d) from rfl)
  have C4 := same17_any A6 B6 A B n n c6 d6 n m c d t t (w6.alloc (.cells #[.slice A6 n c6, .slice B6 n d6] 25)) HU7.out HT7.out (by omega) (by omega) (by omega) (by omega)
  rw [decide_eq_true (show t = t from rfl)] at C4
  go_wp2_with fail
  clear u0 u1 x0 x1
  generalize (w6.alloc (.cells #[.slice A6 n c6, .slice B6 n d6] 25)) = w7 at *
  refine C4.mono ?_
  rintro e w8 ⟨rfl, hb8⟩
  have b8 := hide (below_both b7.out hb8 b7.out.size)
  have R8 := hide (R7.out.below hb8 R7.out.lt)
  have HT8 := hide (HT7.out.below hb8)
  have HP8 := hide (HP7.out.below hb8)
  have D8 := hide (D7.out.below hb8 D7.out.lt)
  clear C4 hb8 R7 HT7 HP7 D7 b7 HU7 E7
  have y0 := (D8.out.cell 0).trans (show _ = some (.int .i64 p.terms) from rfl)
  have y1 := (D8.out.cell 1).trans (show _ = some (.int .i64 p.nons) from rfl)
  have y2 := (D8.out.cell 2).trans (show _ = some (.slice R p.rows.length rc) from rfl)
  have y3 := (D8.out.cell 3).trans (show _ = some (.slice O n oc) from rfl)
  have y4 := (D8.out.cell 4).trans (show _ = some (.slice G p.gotos.length gc) from rfl)
  have y5 := (D8.out.cell 5).trans (show _ = some (.slice T n tc) from rfl)
  have C5 := rright_any R O G T p.rows.length n p.gotos.length n rc oc gc tc p w8 HP8.out (by omega) (by omega) (by omega) (by omega)
  rw [hri.out] at C5
  go_wp2_with fail
  clear y0 y1 y2 y3 y4 y5
  refine C5.mono ?_
  rintro e w9 ⟨rfl, hb9⟩
  have b9 := hide (below_both b8.out hb9 b8.out.size)
  have R9 := hide (R8.out.below hb9 R8.out.lt)
  have HT9 := hide (HT8.out.below hb9)
  have HP9 := hide (HP8.out.below hb9)
  have D9 := hide (D8.out.below hb9 D8.out.lt)
  clear C5 hb9 R8 HT8 HP8 D8 b8
  obtain ⟨b, o, row0, A0, c0, rfl, _, _, _, _, _⟩ := HT9.out.acts.at_ (show 0 < n by omega)
  obtain ⟨b', o', got0, G0, d0, rfl, _, _, _, _, _⟩ := HT9.out.gots.at_ (show 0 < m by have := hmn.out; omega)
  have x0 := (R9.out.cell 0).trans (show _ = some (.slice (some ⟨b, o, none⟩) n c) from rfl)
  have y3 := (D9.out.cell 3).trans (show _ = some (.slice O n oc) from rfl)
  go_wp2_with fail
  clear x0 y3
  go_loopw [7] (fun v wr => ∃ i : Nat, i ≤ n ∧ v = .int .i64 i ∧ Hid (Below w9.heap.size w9 wr)) (fun v _ => n - (intOf v).toNat)
  case atStart => exact ⟨0, by omega, rfl, Below.refl _ _⟩
  case round =>
    obtain ⟨i, hi, rfl, hb⟩ := hrel
    have Ri := hide (R9.out.below hb.out R9.out.lt)
    have x0 := (Ri.out.cell 0).trans (show _ = some (.slice (some ⟨b, o, none⟩) n c) from rfl)
    by_cases hlt : i < n
    · have hlt' : decide ((i : Int) < (n : Int)) = true := by simp; omega
      have hltp : (i : Int) < (n : Int) := by omega
      have hltm : (i : Int) < (m : Int) := by have := hmn.out; omega
      obtain ⟨b9, o9, row, A', c', h9, hr, z1, z2, z3, z4⟩ := HT9.out.acts.at_ hlt
      injection h9 with h9
      injection h9 with e1 e2 _
      subst e1 e2
      obtain ⟨b9, o9, got, G', d', h9, hgr, j1, j2, j3, j4⟩ := HT9.out.gots.at_ (show i < m by have := hmn.out; omega)
      injection h9 with h9
      injection h9 with e1 e2 _
      subst e1 e2
      have hr := hide hr
      have hgr := hide hgr
      have z1 := hide z1
      have j1 := hide j1
      have z2 := hide z2
      have j2 := hide j2
      go_wp2_with fail
      clear x0 Ri
      go_loopw [8] (fun v wr => ∃ k : Nat, k ≤ row.length ∧ v = .int .i64 k ∧ Hid (Below w9.heap.size w9 wr)) (fun v _ => row.length - (intOf v).toNat)
      case atStart => exact ⟨0, by omega, rfl, hb⟩
      case round =>
        clear hb
        obtain ⟨k, hk, rfl, hb⟩ := hrel
        have Ri := hide (R9.out.below hb.out R9.out.lt)
        have Di := hide (D9.out.below hb.out D9.out.lt)
        have x0 := (Ri.out.cell 0).trans (show _ = some (.slice (some ⟨b, o, none⟩) n c) from rfl)
        have x2 := (hb.out.cell (cell_lt z1.out)).trans z1.out
        by_cases hlk : k < row.length
        · have hlk' : decide ((k : Int) < (row.length : Int)) = true := by simp; omega
          have hlkp : (k : Int) < (row.length : Int) := by omega
          obtain ⟨b8, o8, x, hA8, hx, q0, q1⟩ := (z2.out.below hb.out).at2 hlk
          subst hA8
          have hval : actP p (i : Int) (k : Int) = x := hac.out i k row x hr.out hx
          have hbd : Below w9.heap.size w9 wr.drew := hb.out.drew
          have X0 : ∀ W, Ext wr W → W.cell? ⟨w.heap.size, 0, none⟩ = some (.slice (some ⟨b, o, none⟩) n c) := fun W hW => (hW.cell Ri.out.lt).trans ((Ri.out.cell 0).trans rfl)
          have X1 : ∀ W, Ext wr W → W.cell? ⟨b, o + i, none⟩ = some (.slice (some ⟨b8, o8, none⟩) row.length c') := fun W hW => (hW.cell (cell_lt x2)).trans x2
          have X2 : ∀ W, Ext wr W → W.cell? ⟨b8, o8 + k * 2, none⟩ = some (.int .i64 x.1) := fun W hW => (hW.cell (cell_lt q0)).trans q0
          have X3 : ∀ W, Ext wr W → W.cell? ⟨b8, o8 + k * 2 + 1, none⟩ = some (.int .i64 x.2) := fun W hW => (hW.cell (cell_lt q1)).trans q1
          have Y0 : ∀ W, Ext wr W → W.cell? ⟨p5, 0, none⟩ = some (.int .i64 p.terms) := fun W hW => (hW.cell Di.out.lt).trans ((Di.out.cell 0).trans rfl)
          have Y1 : ∀ W, Ext wr W → W.cell? ⟨p5, 1, none⟩ = some (.int .i64 p.nons) := fun W hW => (hW.cell Di.out.lt).trans ((Di.out.cell 1).trans rfl)
          have Y2 : ∀ W, Ext wr W → W.cell? ⟨p5, 2, none⟩ = some (.slice R p.rows.length rc) := fun W hW => (hW.cell Di.out.lt).trans ((Di.out.cell 2).trans rfl)
          have Y3 : ∀ W, Ext wr W → W.cell? ⟨p5, 3, none⟩ = some (.slice O n oc) := fun W hW => (hW.cell Di.out.lt).trans ((Di.out.cell 3).trans rfl)
          have Y4 : ∀ W, Ext wr W → W.cell? ⟨p5, 4, none⟩ = some (.slice G p.gotos.length gc) := fun W hW => (hW.cell Di.out.lt).trans ((Di.out.cell 4).trans rfl)
          have Y5 : ∀ W, Ext wr W → W.cell? ⟨p5, 5, none⟩ = some (.slice T n tc) := fun W hW => (hW.cell Di.out.lt).trans ((Di.out.cell 5).trans rfl)
          have CA := action_any R O G T p.rows.length n p.gotos.length n rc oc gc tc p (i : Int) (k : Int) wr.drew (HP9.out.below hbd) (by omega) (by omega) (by omega) (by omega)
          rw [hval] at CA
          have hq : ∀ W, (binOp .neq 43 (.agg #[.int .i64 x.1, .int .i64 x.2]) (.agg #[.int .i64 x.1, .int .i64 x.2])).run Try.prog W = .ok (.bool false) W := fun W => by
            have := neq43 x x W
            rwa [decide_eq_true rfl, Bool.not_true] at this
          clear hx hval q0 q1
          go_wp2_with fail
          clear x0 x2
          refine wp_region_seq [(0, false), (1, false), (2, false), (4, false), (5, false), (6, false), (7, false), (8, false), (9, false), (10, false), (11, false), (3, true), (12, false)]
            (by kernel_rfl) (by kernel_rfl) (by kernel_rfl) rfl (by kernel_rfl) (fun _ _ d _ _ h => by cases d <;> exact h) ?_
          simp only [List.map_cons, List.map_nil, List.getElem?_cons_succ, List.getElem?_cons_zero, Option.getD_some]
          iterate 11 (refine wpSeq_take rfl rfl (fun W hW => (by have eX0 := X0 W hW; have eX1 := X1 W hW; have eX2 := X2 W hW; have eX3 := X3 W hW; have eY0 := Y0 W hW; have eY1 := Y1 W hW; have eY2 := Y2 W hW; have eY3 := Y3 W hW; have eY4 := Y4 W hW; have eY5 := Y5 W hW; go_simp; with_reducible rfl)) ?_; simp only [List.setIfInBounds_toArray, List.set_cons_zero, List.set_cons_succ])
          clear X0 X1 X2 X3 Y0 Y1 Y2 Y3 Y4 Y5
          refine wpSeq_alone rfl (fun K hK => ?_)
          go_wp2_with fail
          refine CA.mono ?_
          rintro e w10 ⟨rfl, hb10⟩
          have hb11 : Hid (Below w9.heap.size w9 w10) := below_both hbd hb10 hbd.size
          refine hK _ _ w10 (below_both (Ext.drew wr) hb10 (Nat.le_refl _)) (Ext.refl _) ?_
          clear hK K CA hb10 hbd hb Ri Di
          iterate 1 (refine wpSeq_take rfl rfl (fun W hW => (by have eq := hq W; go_simp; with_reducible rfl)) ?_; simp only [List.setIfInBounds_toArray, List.set_cons_zero, List.set_cons_succ])
          refine wpSeq_nil ?_
          go_wp2_with fail
          exact ⟨⟨k + 1, by omega, by go_num, hb11⟩, by simp [intOf]; omega⟩
        · have hlk' : decide ((k : Int) < (row.length : Int)) = false := by simp; omega
          go_wp2_with fail
          clear x0 x2 Ri Di hlk hlk' hk

          go_loopw [9] (fun v wr => ∃ k : Nat, k ≤ got.length ∧ v = .int .i64 k ∧ Hid (Below w9.heap.size w9 wr)) (fun v _ => got.length - (intOf v).toNat)
          case atStart => exact ⟨0, by omega, rfl, hb⟩
          case round =>
            clear hb
            obtain ⟨k, hk, rfl, hb⟩ := hrel
            have Ri := hide (R9.out.below hb.out R9.out.lt)
            have Di := hide (D9.out.below hb.out D9.out.lt)
            have x0 := (Ri.out.cell 1).trans (show _ = some ((.slice (some ⟨b', o', none⟩) m d)) from rfl)
            have x2 := (hb.out.cell (cell_lt j1.out)).trans j1.out
            by_cases hlk : k < got.length
            · have hlk' : decide ((k : Int) < (got.length : Int)) = true := by simp; omega
              have hlkp : (k : Int) < (got.length : Int) := by omega
              obtain ⟨b8, o8, x, hA8, hx, q0⟩ := (j2.out.below hb.out).at1 hlk
              subst hA8
              have hval : gotP p (i : Int) (k : Int) = x := hgo.out i k got x hgr.out hx
              have hbd : Below w9.heap.size w9 wr.drew := hb.out.drew
              have X0 : ∀ W, Ext wr W → W.cell? ⟨w.heap.size, 1, none⟩ = some ((.slice (some ⟨b', o', none⟩) m d)) := fun W hW => (hW.cell Ri.out.lt).trans ((Ri.out.cell 1).trans rfl)
              have X1 : ∀ W, Ext wr W → W.cell? ⟨b', o' + i, none⟩ = some (.slice (some ⟨b8, o8, none⟩) got.length d') := fun W hW => (hW.cell (cell_lt x2)).trans x2
              have X2 : ∀ W, Ext wr W → W.cell? ⟨b8, o8 + k, none⟩ = some (.int .i64 x) := fun W hW => (hW.cell (cell_lt q0)).trans q0
              have Y0 : ∀ W, Ext wr W → W.cell? ⟨p5, 0, none⟩ = some (.int .i64 p.terms) := fun W hW => (hW.cell Di.out.lt).trans ((Di.out.cell 0).trans rfl)
              have Y1 : ∀ W, Ext wr W → W.cell? ⟨p5, 1, none⟩ = some (.int .i64 p.nons) := fun W hW => (hW.cell Di.out.lt).trans ((Di.out.cell 1).trans rfl)
              have Y2 : ∀ W, Ext wr W → W.cell? ⟨p5, 2, none⟩ = some (.slice R p.rows.length rc) := fun W hW => (hW.cell Di.out.lt).trans ((Di.out.cell 2).trans rfl)
              have Y3 : ∀ W, Ext wr W → W.cell? ⟨p5, 3, none⟩ = some (.slice O n oc) := fun W hW => (hW.cell Di.out.lt).trans ((Di.out.cell 3).trans rfl)
              have Y4 : ∀ W, Ext wr W → W.cell? ⟨p5, 4, none⟩ = some (.slice G p.gotos.length gc) := fun W hW => (hW.cell Di.out.lt).trans ((Di.out.cell 4).trans rfl)
              have Y5 : ∀ W, Ext wr W → W.cell? ⟨p5, 5, none⟩ = some (.slice T n tc) := fun W hW => (hW.cell Di.out.lt).trans ((Di.out.cell 5).trans rfl)
              have CA := goto_any R O G T p.rows.length n p.gotos.length n rc oc gc tc p (i : Int) (k : Int) wr.drew (HP9.out.below hbd) (by omega) (by omega) (by omega) (by omega)
              unfold IdxPost at CA
              rw [hval] at CA
              have hq : ∀ W : World, (x != x) = false := fun W => by simp
              clear hx hval q0
              go_wp2_with fail
              clear x0 x2
              refine wp_region_seq [(0, false), (1, false), (2, false), (4, false), (5, false), (6, false), (7, false), (8, false), (9, false), (10, false), (11, false), (3, true), (12, false)]
                (by kernel_rfl) (by kernel_rfl) (by kernel_rfl) rfl (by kernel_rfl) (fun _ _ d _ _ h => by cases d <;> exact h) ?_
              simp only [List.map_cons, List.map_nil, List.getElem?_cons_succ, List.getElem?_cons_zero, Option.getD_some]
              iterate 11 (refine wpSeq_take rfl rfl (fun W hW => (by have eX0 := X0 W hW; have eX1 := X1 W hW; have eX2 := X2 W hW; have eY0 := Y0 W hW; have eY1 := Y1 W hW; have eY2 := Y2 W hW; have eY3 := Y3 W hW; have eY4 := Y4 W hW; have eY5 := Y5 W hW; go_simp; with_reducible rfl)) ?_; simp only [List.setIfInBounds_toArray, List.set_cons_zero, List.set_cons_succ])
              clear X0 X1 X2 Y0 Y1 Y2 Y3 Y4 Y5
              refine wpSeq_alone rfl (fun K hK => ?_)
              go_wp2_with fail
              refine CA.mono ?_
              rintro e w10 ⟨rfl, hb10⟩
              have hb11 : Hid (Below w9.heap.size w9 w10) := below_both hbd hb10 hbd.size
              refine hK _ _ w10 (below_both (Ext.drew wr) hb10 (Nat.le_refl _)) (Ext.refl _) ?_
              clear hK K CA hb10 hbd hb Ri Di
              iterate 1 (refine wpSeq_take rfl rfl (fun W hW => (by have eq := hq W; go_simp; with_reducible rfl)) ?_; simp only [List.setIfInBounds_toArray, List.set_cons_zero, List.set_cons_succ])
              refine wpSeq_nil ?_
              go_wp2_with fail
              exact ⟨⟨k + 1, by omega, by go_num, hb11⟩, by simp [intOf]; omega⟩
            · have hlk' : decide ((k : Int) < (got.length : Int)) = false := by simp; omega
              go_wp2_with fail
              clear x0 x2 Ri Di hlk hlk' hk

              exact ⟨⟨i + 1, by omega, by go_num, hb⟩, by simp [intOf]; omega⟩
    · have hlt' : decide ((i : Int) < (n : Int)) = false := by simp; omega
      go_wp2_with fail
      go_ret
      exact ⟨rfl, below_both b9.out hb.out b9.out.size⟩
end Go.Proofs.Ytfldbkioepcghaa
