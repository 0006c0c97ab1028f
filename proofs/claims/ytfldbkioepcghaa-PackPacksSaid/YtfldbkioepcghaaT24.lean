/- Walks over the reference: a table packed. -/
import Derived.Test.YtfldbkioepcghaaT23
import Derived.Deep.CutBlock
import Derived.Deep.CutRange
namespace Go.Proofs.Ytfldbkioepcghaa
open Go.RowKit
set_option linter.unusedVariables false

theorem six_over {w0 w : World} {base q : Nat} {R O G T : Option Addr} {rc oc gc tc : Nat} {p : Pk} {u0 u1 u2 u3 u4 u5 v0 v1 v2 v3 v4 v5 : Value} (hP : Row w q 33 #[u0, u1, u2, u3, u4, u5]) (hQ : PkOwn w base R O G T rc oc gc tc p) (hB : Below base w0 w) (hq : base ≤ q) :
    Row ((((((w.setCell ⟨q, 0, none⟩ v0).setCell ⟨q, 1, none⟩ v1).setCell ⟨q, 2, none⟩ v2).setCell ⟨q, 3, none⟩ v3).setCell ⟨q, 4, none⟩ v4).setCell ⟨q, 5, none⟩ v5) q 33 #[v0, v1, v2, v3, v4, v5] ∧
    PkOwn ((((((w.setCell ⟨q, 0, none⟩ v0).setCell ⟨q, 1, none⟩ v1).setCell ⟨q, 2, none⟩ v2).setCell ⟨q, 3, none⟩ v3).setCell ⟨q, 4, none⟩ v4).setCell ⟨q, 5, none⟩ v5) base R O G T rc oc gc tc p ∧
    Below base w0 ((((((w.setCell ⟨q, 0, none⟩ v0).setCell ⟨q, 1, none⟩ v1).setCell ⟨q, 2, none⟩ v2).setCell ⟨q, 3, none⟩ v3).setCell ⟨q, 4, none⟩ v4).setCell ⟨q, 5, none⟩ v5) :=
  have P1 := hP.put 0 v0
  have P2 := P1.put 1 v1
  have P3 := P2.put 2 v2
  have P4 := P3.put 3 v3
  have P5 := P4.put 4 v4
  ⟨P5.put 5 v5, (((((hQ.far hP 0 v0).far P1 1 v1).far P2 2 v2).far P3 3 v3).far P4 4 v4).far P5 5 v5, below_put (below_put (below_put (below_put (below_put (below_put hB hq 0 _) hq 1 _) hq 2 _) hq 3 _) hq 4 _) hq 5 _⟩

set_option maxHeartbeats 8000000 in
set_option maxRecDepth 100000 in
theorem rpack_any (A B : Option Addr) (n m c d : Nat) (t : Tab) (w : World) (ht : TabAt w A B n m t) (hn : n ≤ 1000000) (hm : m ≤ 1000000) :
    Calls Try.prog 12 #[.agg #[.slice A n c, .slice B m d]] w (PkPost w (packE t)) := by
  have b1 : Hid (Below w.heap.size w ((w.alloc (.cells #[.slice A n c, .slice B m d] 25)).alloc (.cells #[.int .i64 0, .int .i64 0, .slice none 0 0, .slice none 0 0, .slice none 0 0, .slice none 0 0] 33))) := ((Below.refl _ _).alloc (Nat.le_refl _) _).alloc (by simp) _
  have R1 : Hid (Row ((w.alloc (.cells #[.slice A n c, .slice B m d] 25)).alloc (.cells #[.int .i64 0, .int .i64 0, .slice none 0 0, .slice none 0 0, .slice none 0 0, .slice none 0 0] 33)) w.heap.size 25 #[.slice A n c, .slice B m d]) := (Row.new _ _ _).alloc _
  have R2 : Hid (Row ((w.alloc (.cells #[.slice A n c, .slice B m d] 25)).alloc (.cells #[.int .i64 0, .int .i64 0, .slice none 0 0, .slice none 0 0, .slice none 0 0, .slice none 0 0] 33)) (w.heap.size + 1) 33 #[.int .i64 0, .int .i64 0, .slice none 0 0, .slice none 0 0, .slice none 0 0, .slice none 0 0]) := by
    have := Row.new (w.alloc (.cells #[.slice A n c, .slice B m d] 25)) 33 #[.int .i64 0, .int .i64 0, .slice none 0 0, .slice none 0 0, .slice none 0 0, .slice none 0 0]
    show Row _ _ _ _
    simpa using this
  have HT0 := hide ht
  have la : Hid (t.acts.length = n) := ht.acts.1
  have lg : Hid (t.gots.length = m) := ht.gots.1
  have x0 := (R1.out.cell 0).trans (show _ = some (.slice A n c) from rfl)
  have x1 := (R1.out.cell 1).trans (show _ = some (.slice B m d) from rfl)
  have C0 := shaped_any A B n m c d t ((w.alloc (.cells #[.slice A n c, .slice B m d] 25)).alloc (.cells #[.int .i64 0, .int .i64 0, .slice none 0 0, .slice none 0 0, .slice none 0 0, .slice none 0 0] 33)) (ht.below b1.out) hn hm
  clear ht
  go_enter Try.func12, Try.ntmps12
  go_wp2_with fail
  clear x0 x1
  generalize ((w.alloc (.cells #[.slice A n c, .slice B m d] 25)).alloc (.cells #[.int .i64 0, .int .i64 0, .slice none 0 0, .slice none 0 0, .slice none 0 0, .slice none 0 0] 33)) = w1 at *
  cases hs : shapedT t with
  | false =>
    have hres : Hid (packE t = (⟨0, 0, [], [], [], []⟩, 1)) := by show _ = _; unfold packE; rw [hs]; rfl
    rw [hs] at C0
    clear hs
    refine C0.mono ?_
    rintro e w2 ⟨rfl, hb2⟩
    have b2 := hide (below_both b1.out hb2 b1.out.size)
    have R2' := hide (R2.out.below hb2 R2.out.lt)
    clear C0 hb2
    have y0 := (R2'.out.cell 0).trans (show _ = some (.int .i64 0) from rfl)
    have fz0 := R2'.out.frozen 0
    have y1 := (R2'.out.cell 1).trans (show _ = some (.int .i64 0) from rfl)
    have fz1 := R2'.out.frozen 1
    have y2 := (R2'.out.cell 2).trans (show _ = some (.slice none 0 0) from rfl)
    have fz2 := R2'.out.frozen 2
    have y3 := (R2'.out.cell 3).trans (show _ = some (.slice none 0 0) from rfl)
    have fz3 := R2'.out.frozen 3
    have y4 := (R2'.out.cell 4).trans (show _ = some (.slice none 0 0) from rfl)
    have fz4 := R2'.out.frozen 4
    have y5 := (R2'.out.cell 5).trans (show _ = some (.slice none 0 0) from rfl)
    have fz5 := R2'.out.frozen 5
    go_wp2_with fail
    obtain ⟨P15, Q15, B15⟩ := six_puts R2'.out (PkOwn.zero w2 w.heap.size) b2.out (by omega)
    clear y0 fz0 y1 fz1 y2 fz2 y3 fz3 y4 fz4 y5 fz5
    generalize (((((((w2.setCell ⟨w.heap.size + 1, 0, none⟩ (.int .i64 0)).setCell ⟨w.heap.size + 1, 1, none⟩ (.int .i64 0)).setCell ⟨w.heap.size + 1, 2, none⟩ (.slice none 0 0)).setCell ⟨w.heap.size + 1, 3, none⟩ (.slice none 0 0)).setCell ⟨w.heap.size + 1, 4, none⟩ (.slice none 0 0)).setCell ⟨w.heap.size + 1, 5, none⟩ (.slice none 0 0))) = w15 at *
    have i0 := (P15.cell 0).trans (show _ = some (.int .i64 0) from rfl)
    have i1 := (P15.cell 1).trans (show _ = some (.int .i64 0) from rfl)
    have i2 := (P15.cell 2).trans (show _ = some (.slice none 0 0) from rfl)
    have i3 := (P15.cell 3).trans (show _ = some (.slice none 0 0) from rfl)
    have i4 := (P15.cell 4).trans (show _ = some (.slice none 0 0) from rfl)
    have i5 := (P15.cell 5).trans (show _ = some (.slice none 0 0) from rfl)
    refine bodyPost_ret (v := .tuple #[.agg #[.int .i64 0, .int .i64 0, .slice none 0 0, .slice none 0 0, .slice none 0 0, .slice none 0 0], .int .i64 1]) (by simp [results, Try.results12, go_sem, i0, i1, i2, i3, i4, i5]) rfl ?_
    unfold PkPost
    rw [hres.out]
    exact ⟨none, none, none, none, 0, 0, 0, 0, rfl, Q15, B15⟩
  | true =>
  have hres : Hid (packE t = (packT t, 0)) := by show _ = _; unfold packE; rw [if_pos hs]
  rw [hs] at C0
  obtain ⟨q1, q2, q3, he1, he2⟩ := shaped_parts hs
  have hac : Hid (∀ r ∈ t.acts, 1 ≤ r.length ∧ r.length ≤ 25) := fun r hr => (even_parts he1 hr).2
  have hgo : Hid (∀ r ∈ t.gots, r.length ≤ 16) := fun r hr => (even_parts he2 hr).2.2
  have hn1 : 1 ≤ n := by have := la.out; omega
  have hn3 : n ≤ 300 := by have := la.out; omega
  have hmn : Hid (m = n) := by show _ = _; have h1 := la.out; have h2 := lg.out; omega
  clear hs q1 q2 q3 he1 he2
  refine C0.mono ?_
  rintro e w2 ⟨rfl, hb2⟩
  have b2 := hide (below_both b1.out hb2 b1.out.size)
  have R1' := hide (R1.out.below hb2 R1.out.lt)
  have R2' := hide (R2.out.below hb2 R2.out.lt)
  have HT2 := hide (HT0.out.below b2.out)
  clear C0 hb2 R1 R2 b1
  obtain ⟨b, o, row0, A0, c0, rfl, hr0, k1, _, _, _⟩ := HT2.out.acts.at_ (show 0 < n by omega)
  obtain ⟨b', o', got0, G0, d0, rfl, hg0, j1, _, _, _⟩ := HT2.out.gots.at_ (show 0 < m by have := hmn.out; omega)
  rw [Nat.add_zero] at k1 j1
  obtain ⟨hr0a, hr0b⟩ := hac.out row0 (List.mem_of_getElem? hr0)
  have hg0b := hgo.out got0 (List.mem_of_getElem? hg0)
  have hpt : Hid (packT t = ⟨((row0.length : Int) - 1), (got0.length : Int), (shareF (fun r => entF r 0) t.acts [] []).1, (shareF (fun r => entF r 0) t.acts [] []).2, (shareF (fun r => edgF r 0) t.gots [] []).1, (shareF (fun r => edgF r 0) t.gots [] []).2⟩) := by
    show _ = _
    unfold packT
    rw [head_of hr0, head_of hg0]
  have X0 : ∀ W, Ext w2 W → W.cell? ⟨w.heap.size, 0, none⟩ = some (.slice (some ⟨b, o, none⟩) n c) := fun W hW => (hW.cell R1'.out.lt).trans ((R1'.out.cell 0).trans rfl)
  have X1 : ∀ W, Ext w2 W → W.cell? ⟨w.heap.size, 1, none⟩ = some (.slice (some ⟨b', o', none⟩) m d) := fun W hW => (hW.cell R1'.out.lt).trans ((R1'.out.cell 1).trans rfl)
  have X2 : ∀ W, Ext w2 W → W.cell? ⟨b, o, none⟩ = some (.slice A0 row0.length c0) := fun W hW => (hW.cell (cell_lt k1)).trans k1
  have X3 : ∀ W, Ext w2 W → W.cell? ⟨b', o', none⟩ = some (.slice G0 got0.length d0) := fun W hW => (hW.cell (cell_lt j1)).trans j1
  have hnp : 0 < n := by omega
  have hmp : 0 < m := by have := hmn.out; omega
  clear hr0 hg0 k1 j1
  go_wp2_with fail
  refine wp_region_seq [(0, false), (1, false), (2, false), (3, false), (4, false), (5, false), (6, false), (7, false), (8, false), (9, false), (10, false), (11, false), (12, true), (13, true)]
    (by kernel_rfl) (by kernel_rfl) (by kernel_rfl) rfl (by kernel_rfl) (fun _ _ d _ _ h => by cases d <;> exact h) ?_
  simp only [List.map_cons, List.map_nil, List.getElem?_cons_succ, List.getElem?_cons_zero, Option.getD_some]
  iterate 12 (refine wpSeq_take rfl rfl (fun W hW => (by have eX0 := X0 W hW; have eX1 := X1 W hW; have eX2 := X2 W hW; have eX3 := X3 W hW; go_simp; with_reducible rfl)) ?_; simp only [List.setIfInBounds_toArray, List.set_cons_zero, List.set_cons_succ])
  clear X0 X1 X2 X3 hnp hmp
  have V0 : Row (w2.drew.alloc (.cells #[.int .i64 0, .int .i64 0, .slice none 0 0, .slice none 0 0, .slice none 0 0, .slice none 0 0] 33)) w2.heap.size 33 #[.int .i64 0, .int .i64 0, .slice none 0 0, .slice none 0 0, .slice none 0 0, .slice none 0 0] := Row.new _ _ _
  have v0 := (V0.cell 0).trans (show _ = some (.int .i64 0) from rfl)
  have fv0 := V0.frozen 0
  have v1 := (V0.cell 1).trans (show _ = some (.int .i64 0) from rfl)
  have fv1 := V0.frozen 1
  have v2 := (V0.cell 2).trans (show _ = some (.slice none 0 0) from rfl)
  have fv2 := V0.frozen 2
  have v3 := (V0.cell 3).trans (show _ = some (.slice none 0 0) from rfl)
  have fv3 := V0.frozen 3
  have v4 := (V0.cell 4).trans (show _ = some (.slice none 0 0) from rfl)
  have fv4 := V0.frozen 4
  have v5 := (V0.cell 5).trans (show _ = some (.slice none 0 0) from rfl)
  have fv5 := V0.frozen 5
  have BA : Below w2.heap.size w2 (w2.drew.alloc (.cells #[.int .i64 0, .int .i64 0, .slice none 0 0, .slice none 0 0, .slice none 0 0, .slice none 0 0] 33)) := (Ext.drew w2).alloc (Nat.le_refl _) _
  refine wpSeq_alone rfl (fun K hK => ?_)
  go_wp2_with fail
  refine hK _ _ w2 (Ext.refl _) BA ?_
  clear hK K
  refine wpSeq_alone rfl (fun K hK => ?_)
  go_wp2_with fail
  have BS : Below w2.heap.size w2 (w2.alloc (.cells #[.int .i64 ((row0.length : Int) - 1), .int .i64 (got0.length : Int), .slice none 0 0, .slice none 0 0, .slice none 0 0, .slice none 0 0] 33)).drew := (below_alloc w2 _).drew
  refine hK _ _ w2 (Ext.refl _) BS ?_
  clear hK K V0 BA v0 fv0 v1 fv1 v2 fv2 v3 fv3 v4 fv4 v5 fv5
  refine wpSeq_nil ?_
  have htb : w.heap.size + 1 < w2.heap.size := R2'.out.lt
  have S0 : Hid (RSt w (w2.alloc (.cells #[.int .i64 ((row0.length : Int) - 1), .int .i64 (got0.length : Int), .slice none 0 0, .slice none 0 0, .slice none 0 0, .slice none 0 0] 33)).drew w2.heap.size #[.slice (some ⟨b, o, none⟩) n c, .slice (some ⟨b', o', none⟩) m d] #[.int .i64 ((row0.length : Int) - 1), .int .i64 (got0.length : Int), .slice none 0 0, .slice none 0 0, .slice none 0 0, .slice none 0 0] (.slice none 0 0) (.slice none 0 0) (.slice none 0 0) (.slice none 0 0) [] [] [] []) :=
    ⟨Row.below (w := w2) R1'.out BS R1'.out.lt, Row.below (w := w2) R2'.out BS R2'.out.lt, Row.new w2 _ _, OwnN.nil _ _ _ _ _ _, OwnR.nil _ _ _ _ _, OwnN.nil _ _ _ _ _ _, OwnR.nil _ _ _ _ _, fun g hg => by simp [Value.ownBlock] at hg, below_both b2.out BS b2.out.size, htb⟩
  clear BS htb R1' R2' HT2 b2
  generalize (w2.alloc (.cells #[.int .i64 ((row0.length : Int) - 1), .int .i64 (got0.length : Int), .slice none 0 0, .slice none 0 0, .slice none 0 0, .slice none 0 0] 33)).drew = w3 at *
  generalize w2.heap.size = tb at *
  go_wp2_with fail
  go_loopw [5] (fun v wr => ∃ (i rl gl : Nat) (R O G T : Option Addr) (rc oc gc tc : Nat) (all : List (List (Int × Int × Int))) (of : List Int) (go : List (List (Int × Int))) (tu : List Int), i ≤ n ∧ rl ≤ i ∧ gl ≤ i ∧ v = .int .i64 i ∧ Hid (all.length = rl) ∧ Hid (of.length = i) ∧ Hid (go.length = gl) ∧ Hid (tu.length = i) ∧
    Hid (RSt w wr tb #[.slice (some ⟨b, o, none⟩) n c, .slice (some ⟨b', o', none⟩) m d] #[.int .i64 ((row0.length : Int) - 1), .int .i64 (got0.length : Int), .slice R rl rc, .slice O i oc, .slice G gl gc, .slice T i tc] (.slice R rl rc) (.slice O i oc) (.slice G gl gc) (.slice T i tc) all of go tu) ∧ Hid (shareF (fun r => entF r 0) (t.acts.drop i) all of = shareF (fun r => entF r 0) t.acts [] []) ∧ Hid (shareF (fun r => edgF r 0) (t.gots.drop i) go tu = shareF (fun r => edgF r 0) t.gots [] [])) (fun v _ => n - (intOf v).toNat)
  case atStart => exact ⟨0, 0, 0, none, none, none, none, 0, 0, 0, 0, [], [], [], [], by omega, by omega, by omega, rfl, rfl, rfl, rfl, rfl, S0, rfl, rfl⟩
  case round =>
    clear S0
    obtain ⟨i, rl, gl, R, O, G, T, rc, oc, gc, tc, all, of, go, tu, hi, hrl, hgl, rfl, hal, hol, hgal, htl, S, hsA, hsG⟩ := hrel
    have x0 := (S.out.inp.cell 0).trans (show _ = some (.slice (some ⟨b, o, none⟩) n c) from rfl)
    by_cases hlt : i < n
    · have hlt' : decide ((i : Int) < (n : Int)) = true := by simp; omega
      have hltp : (i : Int) < (n : Int) := by omega
      have hltm : (i : Int) < (m : Int) := by have := hmn.out; omega
      obtain ⟨b9, o9, row, A', c', h9, hr, z1, z2, z3, z4⟩ := (HT0.out.below S.out.bel).acts.at_ hlt
      injection h9 with h9
      injection h9 with e1 e2 _
      subst e1 e2
      obtain ⟨b9, o9, got, G', d', h9, hgr, j1, j2, j3, j4⟩ := (HT0.out.below S.out.bel).gots.at_ (show i < m by have := hmn.out; omega)
      injection h9 with h9
      injection h9 with e1 e2 _
      subst e1 e2
      have hrl25 := (hac.out row (List.mem_of_getElem? hr)).2
      have hgl16 := hgo.out got (List.mem_of_getElem? hgr)
      have hsA := hide ((share_drop (fun r => entF r 0) hr all of).symm.trans hsA.out)
      have hsG := hide ((share_drop (fun r => edgF r 0) hgr go tu).symm.trans hsG.out)
      have hws : IntKind.i64.wrap ((row0.length : Int) - 1) = (row0.length : Int) - 1 := by rw [IntKind.wrap_i64]; omega
      clear hws
      have CR := rrow_any A' row.length c' row wr.drew (z2.below (Ext.drew wr)) (by omega)
      have hel := entF_len row 0
      have hgll := edgF_len got 0
      obtain ⟨x, hxe⟩ : ∃ x, x = entF row 0 := ⟨_, rfl⟩
      obtain ⟨y, hye⟩ : ∃ y, y = edgF got 0 := ⟨_, rfl⟩
      try dsimp only at hsA hsG
      rw [← hxe] at hsA CR hel
      rw [← hye] at hsG hgll
      have hyE := hide hye
      clear hye
      have X0 : ∀ W, Ext wr W → W.cell? ⟨w.heap.size, 0, none⟩ = some (.slice (some ⟨b, o, none⟩) n c) := fun W hW => (hW.cell S.out.inp.lt).trans ((S.out.inp.cell 0).trans rfl)
      have X1 : ∀ W, Ext wr W → W.cell? ⟨w.heap.size, 1, none⟩ = some (.slice (some ⟨b', o', none⟩) m d) := fun W hW => (hW.cell S.out.inp.lt).trans ((S.out.inp.cell 1).trans rfl)
      have X2 : ∀ W, Ext wr W → W.cell? ⟨b, o + i, none⟩ = some (.slice A' row.length c') := fun W hW => (hW.cell (cell_lt z1)).trans z1
      have X3 : ∀ W, Ext wr W → W.cell? ⟨b', o' + i, none⟩ = some (.slice G' got.length d') := fun W hW => (hW.cell (cell_lt j1)).trans j1
      have j2 := hide j2
      clear hr hgr z1 z2 j1 hxe
      go_wp2_with fail
      clear x0
      refine wp_region_seq [(0, false), (1, false), (2, false), (3, false), (4, false), (6, false), (7, false), (8, false), (9, false), (10, false), (5, true), (11, true), (12, false), (13, false)]
        (by kernel_rfl) (by kernel_rfl) (by kernel_rfl) rfl (by kernel_rfl) (fun _ _ d _ _ h => by cases d <;> exact h) ?_
      simp only [List.map_cons, List.map_nil, List.getElem?_cons_succ, List.getElem?_cons_zero, Option.getD_some]
      iterate 10 (refine wpSeq_take rfl rfl (fun W hW => (by have eX0 := X0 W hW; have eX1 := X1 W hW; have eX2 := X2 W hW; have eX3 := X3 W hW; go_simp; with_reducible rfl)) ?_; simp only [List.setIfInBounds_toArray, List.set_cons_zero, List.set_cons_succ])
      clear X0 X1 X2 X3
      refine wpSeq_alone rfl (fun K hK => ?_)
      go_wp2_with fail
      refine CR.mono ?_
      rintro e w4 ⟨v4, rfl, hX4, hb4⟩
      obtain ⟨X, cx, rfl, hXT⟩ := hX4.inT
      have b4 := below_both (Ext.drew wr) hb4 (Nat.le_refl _)
      refine hK _ _ w4 b4 (Ext.refl _) ?_
      clear hK K CR hX4 hb4
      have CG := rgotos_any G' got.length d' got w4 (j2.out.below b4) (by omega)
      rw [← hyE.out] at CG
      refine wpSeq_alone rfl (fun K hK => ?_)
      go_wp2_with fail
      refine CG.mono ?_
      rintro e w5 ⟨v5, rfl, hY5, hb5⟩
      obtain ⟨Y, cy, rfl, hYT⟩ := hY5.inT
      refine hK _ _ w5 hb5 (Ext.refl _) ?_
      clear hK K CG hY5
      iterate 2 (refine wpSeq_take rfl rfl (fun W hW => (by go_simp; with_reducible rfl)) ?_; simp only [List.setIfInBounds_toArray, List.set_cons_zero, List.set_cons_succ])
      refine wpSeq_nil ?_
      have S5 := hide (S.out.below (below_both b4 hb5 b4.size))
      have XT := hide (hXT.below hb5)
      have YT := hide hYT
      clear hXT hYT hb5 b4 S j2 hyE
      go_upto_block 2 with fail
      go_cut [8] from 26 to 112 (fun s8 wx => s8 = .int .i64 (idxN all x : Nat) ∧ Hid (Below w5.heap.size w5 wx))
      case first =>
        go_wp2_with fail
        go_loopw [8] (fun v wr => ∃ j : Nat, j ≤ rl ∧ v = .int .i64 j ∧ Hid ((all.take j).all (fun z => !decide (z = x)) = true) ∧ Hid (Below w5.heap.size w5 wr)) (fun v _ => rl - (intOf v).toNat)
        case atStart => exact ⟨0, by omega, rfl, rfl, Below.refl _ _⟩
        case round =>
          obtain ⟨j, hj, rfl, hta, hb⟩ := hrel
          have t2 := ((S5.out.below hb.out).tab.cell 2).trans (show _ = some (.slice R rl rc) from rfl)
          by_cases hlj : j < rl
          · have hlj' : decide ((j : Int) < (rl : Int)) = true := by simp; omega
            have hljp : (j : Int) < (rl : Int) := by omega
            have hNE : Nest wr 3 f3 R rl all := by have := (S5.out.below hb.out).rows.nest; rwa [hal.out] at this
            obtain ⟨b7, o7, y7, A7, c7, rfl, hy7, p1, p2, p3, p4⟩ := hNE.at_ hlj
            have CE := eq_35 A7 X y7.length x.length c7 cx y7 x wr p2 (XT.out.below hb.out).1 (by omega) (by omega)
            unfold EqPost at CE
            have hy7 := hide hy7
            clear p2 hNE
            by_cases hyx : y7 = x
            · have hidx : Hid (idxN all x = j) := idxN_hit hta.out (hyx ▸ hy7.out)
              rw [decide_eq_true hyx] at CE
              clear hyx hy7
              go_wp2_with fail
              refine CE.mono ?_
              rintro e w8 ⟨rfl, hb8⟩
              have hb9 : Hid (Below w5.heap.size w5 w8) := below_both hb.out hb8 hb.out.size
              clear CE hb8 hb t2 p1
              go_wp2_with fail
              go_meet
              exact ⟨by rw [hidx.out], hb9⟩
            · have hta2 : Hid ((all.take (j + 1)).all (fun z => !decide (z = x)) = true) := all_take hy7.out (by simp [hyx]) hta.out
              rw [decide_eq_false hyx] at CE
              clear hyx hy7
              go_wp2_with fail
              refine CE.mono ?_
              rintro e w8 ⟨rfl, hb8⟩
              have hb9 : Hid (Below w5.heap.size w5 w8) := below_both hb.out hb8 hb.out.size
              clear CE hb8 hb t2 p1
              go_wp2_with fail
              exact ⟨⟨j + 1, by omega, by go_num, hta2, hb9⟩, by simp [intOf]; omega⟩
          · have hlj' : decide ((j : Int) < (rl : Int)) = false := by simp; omega
            have hidx : Hid (idxN all x = j) := by
              show _ = _
              rw [idxN_none (all_end (by rw [hal.out]; omega) hta.out), hal.out]
              omega
            clear hta
            go_wp2_with fail
            go_meet
            exact ⟨by rw [hidx.out], hb⟩
      case rest =>
      obtain ⟨rfl, hb6⟩ := hcut
      have S6 := hide (S5.out.below hb6.out)
      have XT := hide (XT.out.below hb6.out)
      have YT := hide (YT.out.below hb6.out)
      clear hb6 S5
      generalize wc = w6 at *
      go_upto_block 4 with fail
      go_cut [9] from 26 to 112 (fun s9 wx => s9 = .int .i64 (idxN go y : Nat) ∧ Hid (Below w6.heap.size w6 wx))
      case first =>
        go_wp2_with fail
        go_loopw [9] (fun v wr => ∃ j : Nat, j ≤ gl ∧ v = .int .i64 j ∧ Hid ((go.take j).all (fun z => !decide (z = y)) = true) ∧ Hid (Below w6.heap.size w6 wr)) (fun v _ => gl - (intOf v).toNat)
        case atStart => exact ⟨0, by omega, rfl, rfl, Below.refl _ _⟩
        case round =>
          obtain ⟨j, hj, rfl, hta, hb⟩ := hrel
          have t2 := ((S6.out.below hb.out).tab.cell 4).trans (show _ = some (.slice G gl gc) from rfl)
          by_cases hlj : j < gl
          · have hlj' : decide ((j : Int) < (gl : Int)) = true := by simp; omega
            have hljp : (j : Int) < (gl : Int) := by omega
            have hNE : Nest wr 2 f2 G gl go := by have := (S6.out.below hb.out).gots.nest; rwa [hgal.out] at this
            obtain ⟨b7, o7, y7, A7, c7, rfl, hy7, p1, p2, p3, p4⟩ := hNE.at_ hlj
            have CE := eq_36 A7 Y y7.length y.length c7 cy y7 y wr p2 (YT.out.below hb.out).1 (by omega) (by omega)
            unfold EqPost at CE
            have hy7 := hide hy7
            clear p2 hNE
            by_cases hyx : y7 = y
            · have hidx : Hid (idxN go y = j) := idxN_hit hta.out (hyx ▸ hy7.out)
              rw [decide_eq_true hyx] at CE
              clear hyx hy7
              go_wp2_with fail
              refine CE.mono ?_
              rintro e w8 ⟨rfl, hb8⟩
              have hb9 : Hid (Below w6.heap.size w6 w8) := below_both hb.out hb8 hb.out.size
              clear CE hb8 hb t2 p1
              go_wp2_with fail
              go_meet
              exact ⟨by rw [hidx.out], hb9⟩
            · have hta2 : Hid ((go.take (j + 1)).all (fun z => !decide (z = y)) = true) := all_take hy7.out (by simp [hyx]) hta.out
              rw [decide_eq_false hyx] at CE
              clear hyx hy7
              go_wp2_with fail
              refine CE.mono ?_
              rintro e w8 ⟨rfl, hb8⟩
              have hb9 : Hid (Below w6.heap.size w6 w8) := below_both hb.out hb8 hb.out.size
              clear CE hb8 hb t2 p1
              go_wp2_with fail
              exact ⟨⟨j + 1, by omega, by go_num, hta2, hb9⟩, by simp [intOf]; omega⟩
          · have hlj' : decide ((j : Int) < (gl : Int)) = false := by simp; omega
            have hidx : Hid (idxN go y = j) := by
              show _ = _
              rw [idxN_none (all_end (by rw [hgal.out]; omega) hta.out), hgal.out]
              omega
            clear hta
            go_wp2_with fail
            go_meet
            exact ⟨by rw [hidx.out], hb⟩
      case rest =>
      obtain ⟨rfl, hb7⟩ := hcut
      have S7 := hide (S6.out.below hb7.out)
      have XT := hide (XT.out.below hb7.out)
      have YT := hide (YT.out.below hb7.out)
      clear hb7 S6
      generalize wc = w7 at *
      have t2 := (S7.out.tab.cell 2).trans (show _ = some (.slice R rl rc) from rfl)
      go_upto_if 83 with fail
      go_cut [] from 26 to 112 (fun wx => ∃ (R' : Option Addr) (rl' rc' : Nat), rl' ≤ i + 1 ∧ Hid ((addF all x).length = rl') ∧ Hid (RSt w wx tb #[.slice (some ⟨b, o, none⟩) n c, .slice (some ⟨b', o', none⟩) m d] #[.int .i64 ((row0.length : Int) - 1), .int .i64 (got0.length : Int), .slice R' rl' rc', .slice O i oc, .slice G gl gc, .slice T i tc] (.slice R' rl' rc') (.slice O i oc) (.slice G gl gc) (.slice T i tc) (addF all x) of go tu) ∧ Hid (InT wx 59 2 f2 Y cy y))
      case first =>
        have hixl := idxN_le all x
        by_cases hid : idxN all x = rl
        · have tid : ((idxN all x : Int) == (rl : Int)) = true := by simp [hid]
          have hadd : Hid (addF all x = all ++ [x]) := by show _ = _; unfold addF; rw [if_pos (hid.trans hal.out.symm)]
          have E8 := below_alloc w7 (.cells #[.slice X x.length cx] 61)
          have S8 := S7.out.below E8
          have X8 := XT.out.below E8
          have Y8 := hide (YT.out.below E8)
          have R8 : Row (w7.alloc (.cells #[.slice X x.length cx] 61)) w7.heap.size 61 #[.slice X x.length cx] := Row.new _ _ _
          have hbs := S8.bel.size
          clear hid
          go_wp2_with (at_builtin; refine appN ti29 (by decide) w.heap.size S8.rows (x := x) R8 X8 (by rw [hal.out]; omega) (by omega) hbs rfl _ _ rfl rfl rfl ?_)
          intro A9 c9 w9 hN9 hb9 hrow9 hg9
          have S9 := S8.addR hN9 hg9 hb9
          have hown8 := S8.rows.owns
          obtain ⟨us8, hus8⟩ := hown8
          have Y9 := Y8.out.grown hus8 hg9 (by decide)
          rw [hal.out] at S9 ⊢
          have t9 := (S9.tab.cell 2).trans (show _ = some (.slice R rl rc) from rfl)
          have f9 := S9.tab.frozen 2
          have S10 := hide (S9.put 2 (.slice A9 (rl + 1) c9))
          have Y10 := hide (Y9.keep (grown_put w9 tb 2 (.slice A9 (rl + 1) c9)) fun g hg cs fz hh => by obtain rfl := Option.some.inj hg; exact absurd (S9.tab.ty hh) (by decide))
          clear hN9 hg9 hb9 hrow9 S8 X8 Y8 R8 E8 hbs us8 hus8 Y9 S9 t2
          go_wp2_with fail
          go_meet
          exact ⟨A9, rl + 1, c9, by omega, by show _ = _; rw [hadd.out, List.length_append, hal.out]; rfl, by rw [hadd.out]; exact S10, Y10⟩
        · have tid : ((idxN all x : Int) == (rl : Int)) = false := by simp; omega
          have hadd : Hid (addF all x = all) := by show _ = _; unfold addF; rw [if_neg (by rw [hal.out]; exact hid)]
          clear hid t2
          go_wp2_with fail
          go_meet
          exact ⟨R, rl, rc, by omega, by show _ = _; rw [hadd.out, hal.out], by rw [hadd.out]; exact S7, YT⟩
      case rest =>
      obtain ⟨R', rl', rc', hrl', hal', S8, YT⟩ := hcut
      clear S7 XT t2 hal
      generalize wc = w8 at *
      have t2 := (S8.out.tab.cell 4).trans (show _ = some (.slice G gl gc) from rfl)
      go_upto_if 94 with fail
      go_cut [] from 26 to 112 (fun wx => ∃ (G2 : Option Addr) (gl' gc' : Nat), gl' ≤ i + 1 ∧ Hid ((addF go y).length = gl') ∧ Hid (RSt w wx tb #[.slice (some ⟨b, o, none⟩) n c, .slice (some ⟨b', o', none⟩) m d] #[.int .i64 ((row0.length : Int) - 1), .int .i64 (got0.length : Int), .slice R' rl' rc', .slice O i oc, .slice G2 gl' gc', .slice T i tc] (.slice R' rl' rc') (.slice O i oc) (.slice G2 gl' gc') (.slice T i tc) (addF all x) of (addF go y) tu))
      case first =>
        have hixl := idxN_le go y
        by_cases hid : idxN go y = gl
        · have tid : ((idxN go y : Int) == (gl : Int)) = true := by simp [hid]
          have hadd : Hid (addF go y = go ++ [y]) := by show _ = _; unfold addF; rw [if_pos (hid.trans hgal.out.symm)]
          have E8 := below_alloc w8 (.cells #[.slice Y y.length cy] 62)
          have S9 := S8.out.below E8
          have Y8 := YT.out.below E8
          have R8 : Row (w8.alloc (.cells #[.slice Y y.length cy] 62)) w8.heap.size 62 #[.slice Y y.length cy] := Row.new _ _ _
          have hbs := S9.bel.size
          clear hid
          go_wp2_with (at_builtin; refine appN ti31 (by decide) w.heap.size S9.gots (x := y) R8 Y8 (by rw [hgal.out]; omega) (by omega) hbs rfl _ _ rfl rfl rfl ?_)
          intro A9 c9 w9 hN9 hb9 hrow9 hg9
          have S10 := S9.addG hN9 hg9 hb9
          rw [hgal.out] at S10 ⊢
          have t9 := (S10.tab.cell 4).trans (show _ = some (.slice G gl gc) from rfl)
          have f9 := S10.tab.frozen 4
          have S11 := hide (S10.put 4 (.slice A9 (gl + 1) c9))
          clear hN9 hg9 hb9 hrow9 S9 Y8 R8 E8 hbs S10 t2
          go_wp2_with fail
          go_meet
          exact ⟨A9, gl + 1, c9, by omega, by show _ = _; rw [hadd.out, List.length_append, hgal.out]; rfl, by rw [hadd.out]; exact S11⟩
        · have tid : ((idxN go y : Int) == (gl : Int)) = false := by simp; omega
          have hadd : Hid (addF go y = go) := by show _ = _; unfold addF; rw [if_neg (by rw [hgal.out]; exact hid)]
          clear hid t2
          go_wp2_with fail
          go_meet
          exact ⟨G, gl, gc, by omega, by show _ = _; rw [hadd.out, hgal.out], by rw [hadd.out]; exact S8⟩
      case rest =>
      obtain ⟨G2, gl', gc', hgl', hgal', S9, hdummy⟩ : ∃ (G2 : Option Addr) (gl' gc' : Nat), gl' ≤ i + 1 ∧ Hid ((addF go y).length = gl') ∧ Hid (RSt w wc tb #[.slice (some ⟨b, o, none⟩) n c, .slice (some ⟨b', o', none⟩) m d] #[.int .i64 ((row0.length : Int) - 1), .int .i64 (got0.length : Int), .slice R' rl' rc', .slice O i oc, .slice G2 gl' gc', .slice T i tc] (.slice R' rl' rc') (.slice O i oc) (.slice G2 gl' gc') (.slice T i tc) (addF all x) of (addF go y) tu) ∧ True := by
        obtain ⟨G2, gl', gc', h1, h2, h3⟩ := hcut
        exact ⟨G2, gl', gc', h1, h2, h3, trivial⟩
      clear S8 YT t2 hgal hcut hdummy
      generalize addF all x = all2 at *
      generalize addF go y = go2 at *
      generalize hzn : idxN all x = zn at *
      generalize hzk : idxN go y = zk at *
      clear hzn hzk
      go_wp2_with fail
      generalize wc = wr at *
      have Sd := hide (S9.out.below (Ext.drew wr))
      have hD : w.heap.size ≤ wr.drew.heap.size := Sd.out.bel.size
      have k00 := (Sd.out.tab.cell 3).trans (show _ = some (.slice O i oc) from rfl)
      have k01 := (Sd.out.tab.cell 5).trans (show _ = some (.slice T i tc) from rfl)
      have E1 := below_alloc wr.drew (.cells #[.int .i64 (zn : Int)] 3)
      have E2 := below_alloc wr.drew (.cells #[.int .i64 (zk : Int)] 3)
      have E12 := E1.alloc (by simp) (.cells #[.int .i64 (zk : Int)] 3)
      have E21 := E2.alloc (by simp) (.cells #[.int .i64 (zn : Int)] 3)
      clear S9
      have k10 : (wr.alloc (.cells #[.int .i64 (zn : Int)] 3)).cell? ⟨tb, 3, none⟩ = some (.slice O i oc) := ((Sd.out.below E1).tab.cell 3).trans rfl
      have k11 : (wr.alloc (.cells #[.int .i64 (zn : Int)] 3)).cell? ⟨tb, 5, none⟩ = some (.slice T i tc) := ((Sd.out.below E1).tab.cell 5).trans rfl
      have k20 : (wr.alloc (.cells #[.int .i64 (zk : Int)] 3)).cell? ⟨tb, 3, none⟩ = some (.slice O i oc) := ((Sd.out.below E2).tab.cell 3).trans rfl
      have k21 : (wr.alloc (.cells #[.int .i64 (zk : Int)] 3)).cell? ⟨tb, 5, none⟩ = some (.slice T i tc) := ((Sd.out.below E2).tab.cell 5).trans rfl
      have k120 : ((wr.alloc (.cells #[.int .i64 (zn : Int)] 3)).alloc (.cells #[.int .i64 (zk : Int)] 3)).cell? ⟨tb, 3, none⟩ = some (.slice O i oc) := ((Sd.out.below E12).tab.cell 3).trans rfl
      have k121 : ((wr.alloc (.cells #[.int .i64 (zn : Int)] 3)).alloc (.cells #[.int .i64 (zk : Int)] 3)).cell? ⟨tb, 5, none⟩ = some (.slice T i tc) := ((Sd.out.below E12).tab.cell 5).trans rfl
      have k210 : ((wr.alloc (.cells #[.int .i64 (zk : Int)] 3)).alloc (.cells #[.int .i64 (zn : Int)] 3)).cell? ⟨tb, 3, none⟩ = some (.slice O i oc) := ((Sd.out.below E21).tab.cell 3).trans rfl
      have k211 : ((wr.alloc (.cells #[.int .i64 (zk : Int)] 3)).alloc (.cells #[.int .i64 (zn : Int)] 3)).cell? ⟨tb, 5, none⟩ = some (.slice T i tc) := ((Sd.out.below E21).tab.cell 5).trans rfl
      have RB12 : Row ((wr.drew.alloc (.cells #[.int .i64 (zn : Int)] 3)).alloc (.cells #[.int .i64 (zk : Int)] 3)) (wr.heap.size + 1) 3 #[.int .i64 (zk : Int)] := by
        have := Row.new (wr.drew.alloc (.cells #[.int .i64 (zn : Int)] 3)) 3 #[.int .i64 (zk : Int)]
        simpa using this
      have RB21 : Row ((wr.drew.alloc (.cells #[.int .i64 (zk : Int)] 3)).alloc (.cells #[.int .i64 (zn : Int)] 3)) (wr.heap.size + 1) 3 #[.int .i64 (zn : Int)] := by
        have := Row.new (wr.drew.alloc (.cells #[.int .i64 (zk : Int)] 3)) 3 #[.int .i64 (zn : Int)]
        simpa using this
      go_region_law (first
        | (refine stepI w.heap.size (Sd.out.below E1).ofs (Row.new wr.drew _ _) hol.out (by omega) (Nat.le_trans hD E1.size) rfl _ _ rfl rfl 1 rfl ?_; intro Aa ca w5 mO hb5 hg5 hk5; have S5 := (Sd.out.below E1).addO mO hg5 hk5 hb5; have k5 := (S5.tab.cell 5).trans (show _ = some (.slice T i tc) from rfl); have k5x := ((S5.tab.alloc (.cells #[.int .i64 (zk : Int)] 3)).cell 5).trans (show _ = some (.slice T i tc) from rfl); have hD5 := S5.bel.size; have hD5x : w.heap.size ≤ (w5.alloc (.cells #[.int .i64 (zk : Int)] 3)).heap.size := Nat.le_trans S5.bel.size (below_alloc w5 _).size; clear mO hb5 hg5 hk5)
        | (refine stepI w.heap.size (Sd.out.below E12).ofs ((Row.new wr.drew _ _).alloc _) hol.out (by omega) (Nat.le_trans hD E12.size) rfl _ _ rfl rfl 1 rfl ?_; intro Aa ca w5 mO hb5 hg5 hk5; have S5 := (Sd.out.below E12).addO mO hg5 hk5 hb5; have r5 := Sd.out.keepO hg5 (by simp) RB12; have k5 := (S5.tab.cell 5).trans (show _ = some (.slice T i tc) from rfl); have k5x := ((S5.tab.alloc (.cells #[.int .i64 (zk : Int)] 3)).cell 5).trans (show _ = some (.slice T i tc) from rfl); have hD5 := S5.bel.size; have hD5x : w.heap.size ≤ (w5.alloc (.cells #[.int .i64 (zk : Int)] 3)).heap.size := Nat.le_trans S5.bel.size (below_alloc w5 _).size; clear mO hb5 hg5 hk5)
        | (refine stepI w.heap.size (Sd.out.below E21).ofs RB21 hol.out (by omega) (Nat.le_trans hD E21.size) rfl _ _ rfl rfl 1 rfl ?_; intro Aa ca w5 mO hb5 hg5 hk5; have S5 := (Sd.out.below E21).addO mO hg5 hk5 hb5; have r5 := Sd.out.keepO hg5 (Nat.le_refl _) ((Row.new wr.drew 3 #[.int .i64 (zk : Int)]).alloc (.cells #[.int .i64 (zn : Int)] 3)); have k5 := (S5.tab.cell 5).trans (show _ = some (.slice T i tc) from rfl); have k5x := ((S5.tab.alloc (.cells #[.int .i64 (zk : Int)] 3)).cell 5).trans (show _ = some (.slice T i tc) from rfl); have hD5 := S5.bel.size; have hD5x : w.heap.size ≤ (w5.alloc (.cells #[.int .i64 (zk : Int)] 3)).heap.size := Nat.le_trans S5.bel.size (below_alloc w5 _).size; clear mO hb5 hg5 hk5)
        | (refine stepI w.heap.size (S5.below (below_alloc w5 _)).tos (Row.new w5 _ _) htl.out (by omega) hD5x rfl _ _ rfl rfl 1 rfl ?_; intro Ab cb w7 mT hb7 hg7 hk7; have S7 := (S5.below (below_alloc w5 _)).addT mT hg7 hk7 hb7; have k70 := (S7.tab.cell 3).trans (show _ = some (.slice O i oc) from rfl); have k71 := (S7.tab.cell 5).trans (show _ = some (.slice T i tc) from rfl); have f70 := S7.tab.frozen 3; have f71 := S7.tab.frozen 5; clear mT hb7 hg7 hk7)
        | (refine stepI w.heap.size S5.tos r5 htl.out (by omega) hD5 rfl _ _ rfl rfl 1 rfl ?_; intro Ab cb w7 mT hb7 hg7 hk7; have S7 := S5.addT mT hg7 hk7 hb7; have k70 := (S7.tab.cell 3).trans (show _ = some (.slice O i oc) from rfl); have k71 := (S7.tab.cell 5).trans (show _ = some (.slice T i tc) from rfl); have f70 := S7.tab.frozen 3; have f71 := S7.tab.frozen 5; clear mT hb7 hg7 hk7))
      all_goals (
        have S8 : Hid (RSt w ((w7.setCell ⟨tb, 3, none⟩ (.slice Aa (i + 1) ca)).setCell ⟨tb, 5, none⟩ (.slice Ab (i + 1) cb)) tb #[.slice (some ⟨b, o, none⟩) n c, .slice (some ⟨b', o', none⟩) m d] #[.int .i64 ((row0.length : Int) - 1), .int .i64 (got0.length : Int), .slice R' rl' rc', .slice Aa (i + 1) ca, .slice G2 gl' gc', .slice Ab (i + 1) cb] (.slice R' rl' rc') (.slice Aa (i + 1) ca) (.slice G2 gl' gc') (.slice Ab (i + 1) cb) all2 (of ++ [(zn : Int)]) go2 (tu ++ [(zk : Int)])) := (S7.put 3 (.slice Aa (i + 1) ca)).put 5 (.slice Ab (i + 1) cb)
        have hol2 : Hid ((of ++ [(zn : Int)]).length = i + 1) := by show _ = _; rw [List.length_append, hol.out]; rfl
        have htl2 : Hid ((tu ++ [(zk : Int)]).length = i + 1) := by show _ = _; rw [List.length_append, htl.out]; rfl
        clear S7 S5 k70 k71 f70 f71
        generalize ((w7.setCell ⟨tb, 3, none⟩ (.slice Aa (i + 1) ca)).setCell ⟨tb, 5, none⟩ (.slice Ab (i + 1) cb)) = wf at *
        go_wp2_with fail
        exact ⟨⟨i + 1, rl', gl', R', Aa, G2, Ab, rc', ca, gc', cb, all2, of ++ [(zn : Int)], go2, tu ++ [(zk : Int)], by omega, by omega, by omega, by go_num, hal', hol2, hgal', htl2, S8, hsA, hsG⟩, by simp [intOf]; omega⟩)
    · have hlt' : decide ((i : Int) < (n : Int)) = false := by simp; omega
      have hin : i = n := by omega
      have hf1 : Hid (shareF (fun r => entF r 0) t.acts [] [] = (all, of)) := by
        show _ = _
        have := hsA.out
        rw [List.drop_of_length_le (by rw [la.out]; omega), shareF] at this
        exact this.symm
      have hf2 : Hid (shareF (fun r => edgF r 0) t.gots [] [] = (go, tu)) := by
        show _ = _
        have := hsG.out
        rw [List.drop_of_length_le (by rw [lg.out, hmn.out]; omega), shareF] at this
        exact this.symm
      have hPk : PkOwn wr w.heap.size R O G T rc oc gc tc ⟨((row0.length : Int) - 1), (got0.length : Int), all, of, go, tu⟩ := by
        unfold PkOwn
        simp only [hal.out, hol.out, hgal.out, htl.out]
        exact ⟨S.out.rows, S.out.ofs, S.out.gots, S.out.tos⟩
      clear hsA hsG hin
      have p0 := (S.out.tab.cell 0).trans (show _ = some (.int .i64 ((row0.length : Int) - 1)) from rfl)
      have p1 := (S.out.tab.cell 1).trans (show _ = some (.int .i64 (got0.length : Int)) from rfl)
      have p2 := (S.out.tab.cell 2).trans (show _ = some (.slice R rl rc) from rfl)
      have p3 := (S.out.tab.cell 3).trans (show _ = some (.slice O i oc) from rfl)
      have p4 := (S.out.tab.cell 4).trans (show _ = some (.slice G gl gc) from rfl)
      have p5 := (S.out.tab.cell 5).trans (show _ = some (.slice T i tc) from rfl)
      have y0 := (S.out.res.cell 0).trans (show _ = some (.int .i64 0) from rfl)
      have fz0 := S.out.res.frozen 0
      have y1 := (S.out.res.cell 1).trans (show _ = some (.int .i64 0) from rfl)
      have fz1 := S.out.res.frozen 1
      have y2 := (S.out.res.cell 2).trans (show _ = some (.slice none 0 0) from rfl)
      have fz2 := S.out.res.frozen 2
      have y3 := (S.out.res.cell 3).trans (show _ = some (.slice none 0 0) from rfl)
      have fz3 := S.out.res.frozen 3
      have y4 := (S.out.res.cell 4).trans (show _ = some (.slice none 0 0) from rfl)
      have fz4 := S.out.res.frozen 4
      have y5 := (S.out.res.cell 5).trans (show _ = some (.slice none 0 0) from rfl)
      have fz5 := S.out.res.frozen 5
      go_wp2_with fail
      obtain ⟨P15, Q15, B15⟩ := six_over (v0 := .int .i64 ((row0.length : Int) - 1)) (v1 := .int .i64 (got0.length : Int)) (v2 := .slice R rl rc) (v3 := .slice O i oc) (v4 := .slice G gl gc) (v5 := .slice T i tc) S.out.res hPk S.out.bel (by omega)
      clear p0 y0 fz0 p1 y1 fz1 p2 y2 fz2 p3 y3 fz3 p4 y4 fz4 p5 y5 fz5 x0 hPk
      generalize ((((((wr.setCell ⟨w.heap.size + 1, 0, none⟩ (.int .i64 ((row0.length : Int) - 1))).setCell ⟨w.heap.size + 1, 1, none⟩ (.int .i64 (got0.length : Int))).setCell ⟨w.heap.size + 1, 2, none⟩ (.slice R rl rc)).setCell ⟨w.heap.size + 1, 3, none⟩ (.slice O i oc)).setCell ⟨w.heap.size + 1, 4, none⟩ (.slice G gl gc)).setCell ⟨w.heap.size + 1, 5, none⟩ (.slice T i tc)) = w15 at *
      have i0 := (P15.cell 0).trans (show _ = some (.int .i64 ((row0.length : Int) - 1)) from rfl)
      have i1 := (P15.cell 1).trans (show _ = some (.int .i64 (got0.length : Int)) from rfl)
      have i2 := (P15.cell 2).trans (show _ = some (.slice R rl rc) from rfl)
      have i3 := (P15.cell 3).trans (show _ = some (.slice O i oc) from rfl)
      have i4 := (P15.cell 4).trans (show _ = some (.slice G gl gc) from rfl)
      have i5 := (P15.cell 5).trans (show _ = some (.slice T i tc) from rfl)
      refine bodyPost_ret (v := .tuple #[.agg #[.int .i64 ((row0.length : Int) - 1), .int .i64 (got0.length : Int), .slice R rl rc, .slice O i oc, .slice G gl gc, .slice T i tc], .int .i64 0]) (by simp [results, Try.results12, go_sem, i0, i1, i2, i3, i4, i5]) rfl ?_
      unfold PkPost
      rw [hres.out, hpt.out, hf1.out, hf2.out]
      refine ⟨R, O, G, T, rc, oc, gc, tc, ?_, Q15, B15⟩
      simp only [hal.out, hol.out, hgal.out, htl.out]
end Go.Proofs.Ytfldbkioepcghaa
