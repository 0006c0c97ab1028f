/- The walk of PackPacks. -/
import Derived.Test.YtfldbkioepcghaaT24
import Derived.Test.YtfldbkioepcghaaL6b
namespace Go.Proofs.Ytfldbkioepcghaa
open Go.RowKit
set_option linter.unusedVariables false

set_option maxHeartbeats 4000000 in
set_option maxRecDepth 100000 in
theorem law_packs (A B : Option Addr) (n m c d : Nat) (t : Tab) (w : World) (ht : TabAt w A B n m t) (hn : n ≤ 9223372036854775807) (hm : m ≤ 9223372036854775807) :
    Calls Try.prog 3 #[.agg #[.slice A n c, .slice B m d]] w fun e w' => e = .returned (.bool true) ∧ Below w.heap.size w w' := by
  have b1 := hide (below_alloc w (.cells #[.slice A n c, .slice B m d] 25))
  have R1 : Hid (Row (w.alloc (.cells #[.slice A n c, .slice B m d] 25)) w.heap.size 25 #[.slice A n c, .slice B m d]) := Row.new _ _ _
  have HT := hide (ht.below b1.out)
  have la : Hid (t.acts.length = n) := ht.acts.1
  have lg : Hid (t.gots.length = m) := ht.gots.1
  clear ht
  go_enter Try.func3, Try.ntmps3
  go_wp2_with fail
  generalize (w.alloc (.cells #[.slice A n c, .slice B m d] 25)) = w1 at *
  refine (alive18 w1).mono ?_
  rintro e w2 ⟨rfl, hb2⟩
  have b2 := hide (below_both b1.out hb2 b1.out.size)
  have R2 := hide (R1.out.below hb2 R1.out.lt)
  have HT2 := hide (HT.out.below hb2)
  clear R1 HT b1 hb2
  have x0 := (R2.out.cell 0).trans (show _ = some (.slice A n c) from rfl)
  have x1 := (R2.out.cell 1).trans (show _ = some (.slice B m d) from rfl)
  have C1 := great17_any A B n m c d t w2 HT2.out hn hm
  go_wp2_with fail
  clear x0 x1
  cases hg : greatT t with
  | true =>
    rw [hg] at C1
    refine C1.mono ?_
    rintro e w3 ⟨rfl, hb3⟩
    have b3 := hide (below_both b2.out hb3 b2.out.size)
    clear C1 hb3 hg
    go_wp2_with fail
    go_ret
    exact ⟨rfl, b3.out⟩
  | false =>
  rw [hg] at C1
  obtain ⟨g1, g2, g3, g4⟩ := greatT_parts hg
  have k1 : n ≤ 310 := by have := la.out; omega
  have k2 : m ≤ 310 := by have := lg.out; omega
  have g3 := hide g3
  have g4 := hide g4
  have l1 : n ≤ 1000000 := by have := la.out; omega
  have l2 : m ≤ 1000000 := by have := lg.out; omega
  clear hg g1 g2
  refine C1.mono ?_
  rintro e w3 ⟨rfl, hb3⟩
  have b3 := hide (below_both b2.out hb3 b2.out.size)
  have R3 := hide (R2.out.below hb3 R2.out.lt)
  have HT3 := hide (HT2.out.below hb3)
  clear C1 hb3 R2 HT2 b2
  have x0 := (R3.out.cell 0).trans (show _ = some (.slice A n c) from rfl)
  have x1 := (R3.out.cell 1).trans (show _ = some (.slice B m d) from rfl)
  have C2 := copy17_any A B n m c d t w3 HT3.out k1 k2 g3.out g4.out
  unfold CopyPost at C2
  simp only [la.out, lg.out] at C2
  go_wp2_with fail
  clear x0 x1
  refine C2.mono ?_
  rintro e w4 ⟨A', c', B', d', rfl, hN4, hM4, hb4⟩
  have hb5 : Below w3.heap.size w3 (w4.alloc (.cells #[.slice A' n c', .slice B' m d'] 25)) := hb4.alloc hb4.size _
  have b5 := hide (below_both b3.out hb5 b3.out.size)
  have R5 := hide (R3.out.below hb5 R3.out.lt)
  have HT5 := hide (HT3.out.below hb5)
  have HU5 : Hid (TabAt (w4.alloc (.cells #[.slice A' n c', .slice B' m d'] 25)) A' B' n m t) := by
    have h1 := hN4.nest
    have h2 := hM4.nest
    rw [la.out] at h1
    rw [lg.out] at h2
    exact TabAt.below (w := w4) ⟨h1, h2⟩ (below_alloc _ _)
  have D5 : Hid (Row (w4.alloc (.cells #[.slice A' n c', .slice B' m d'] 25)) w4.heap.size 25 #[.slice A' n c', .slice B' m d']) := Row.new _ _ _
  clear C2 hb4 hb5 hN4 hM4 R3 HT3 b3
  obtain ⟨te, no, ro, ol, go, tl, er, hpe⟩ : ∃ te no ro ol go tl er, packE t = (⟨te, no, ro, ol, go, tl⟩, er) := ⟨_, _, _, _, _, _, _, rfl⟩
  obtain ⟨n1, n2, n3, n4⟩ := packE_lens t
  rw [hpe] at n1 n2 n3 n4
  dsimp only at n1 n2 n3 n4
  have hpe := hide hpe
  have u0 := (D5.out.cell 0).trans (show _ = some (.slice A' n c') from rfl)
  have u1 := (D5.out.cell 1).trans (show _ = some (.slice B' m d') from rfl)
  have C3 := pack_any A' B' n m c' d' t (w4.alloc (.cells #[.slice A' n c', .slice B' m d'] 25)) HU5.out.acts HU5.out.gots l2
  unfold PkPost at C3
  rw [hpe.out] at C3
  dsimp only at C3
  go_wp2_with fail
  clear u0 u1
  generalize (w4.alloc (.cells #[.slice A' n c', .slice B' m d'] 25)) = w5 at *
  generalize w4.heap.size = p4 at *
  refine C3.mono ?_
  rintro e w6 ⟨R, O, G, T, rc, oc, gc, tc, rfl, hPk, hb6⟩
  have hb7 : Below w5.heap.size w5 (w6.alloc (.cells #[.int .i64 te, .int .i64 no, .slice R ro.length rc, .slice O ol.length oc, .slice G go.length gc, .slice T tl.length tc] 33)) := hb6.alloc hb6.size _
  have b7 := hide (below_both b5.out hb7 b5.out.size)
  have R7 := hide (R5.out.below hb7 R5.out.lt)
  have HT7 := hide (HT5.out.below hb7)
  have HU7 := hide (HU5.out.below hb7)
  have D7 := hide (D5.out.below hb7 D5.out.lt)
  have HP7 : Hid (PkAt (w6.alloc (.cells #[.int .i64 te, .int .i64 no, .slice R ro.length rc, .slice O ol.length oc, .slice G go.length gc, .slice T tl.length tc] 33)) R O G T ro.length ol.length go.length tl.length ⟨te, no, ro, ol, go, tl⟩) := hPk.at_.below (below_alloc _ _)
  have E7 : Hid (Row (w6.alloc (.cells #[.int .i64 te, .int .i64 no, .slice R ro.length rc, .slice O ol.length oc, .slice G go.length gc, .slice T tl.length tc] 33)) w6.heap.size 33 #[.int .i64 te, .int .i64 no, .slice R ro.length rc, .slice O ol.length oc, .slice G go.length gc, .slice T tl.length tc]) := Row.new _ _ _
  clear C3 hb6 hb7 hPk R5 HT5 HU5 D5 b5
  have x0 := (R7.out.cell 0).trans (show _ = some (.slice A n c) from rfl)
  have x1 := (R7.out.cell 1).trans (show _ = some (.slice B m d) from rfl)
  have C4 := rpack_any A B n m c d t (w6.alloc (.cells #[.int .i64 te, .int .i64 no, .slice R ro.length rc, .slice O ol.length oc, .slice G go.length gc, .slice T tl.length tc] 33)) HT7.out l1 l2
  unfold PkPost at C4
  rw [hpe.out] at C4
  dsimp only at C4
  go_wp2_with fail
  clear x0 x1
  generalize (w6.alloc (.cells #[.int .i64 te, .int .i64 no, .slice R ro.length rc, .slice O ol.length oc, .slice G go.length gc, .slice T tl.length tc] 33)) = w7 at *
  generalize w6.heap.size = p6 at *
  refine C4.mono ?_
  rintro e w8 ⟨R', O', G', T', rc', oc', gc', tc', rfl, hPk, hb8⟩
  have hb9 : Below w7.heap.size w7 (w8.alloc (.cells #[.int .i64 te, .int .i64 no, .slice R' ro.length rc', .slice O' ol.length oc', .slice G' go.length gc', .slice T' tl.length tc'] 33)) := hb8.alloc hb8.size _
  have b9 := hide (below_both b7.out hb9 b7.out.size)
  have R9 := hide (R7.out.below hb9 R7.out.lt)
  have HT9 := hide (HT7.out.below hb9)
  have HU9 := hide (HU7.out.below hb9)
  have D9 := hide (D7.out.below hb9 D7.out.lt)
  have HP9 := hide (HP7.out.below hb9)
  have E9 := hide (E7.out.below hb9 E7.out.lt)
  have HQ9 : Hid (PkAt (w8.alloc (.cells #[.int .i64 te, .int .i64 no, .slice R' ro.length rc', .slice O' ol.length oc', .slice G' go.length gc', .slice T' tl.length tc'] 33)) R' O' G' T' ro.length ol.length go.length tl.length ⟨te, no, ro, ol, go, tl⟩) := hPk.at_.below (below_alloc _ _)
  have F9 : Hid (Row (w8.alloc (.cells #[.int .i64 te, .int .i64 no, .slice R' ro.length rc', .slice O' ol.length oc', .slice G' go.length gc', .slice T' tl.length tc'] 33)) w8.heap.size 33 #[.int .i64 te, .int .i64 no, .slice R' ro.length rc', .slice O' ol.length oc', .slice G' go.length gc', .slice T' tl.length tc']) := Row.new _ _ _
  clear C4 hb8 hb9 hPk R7 HT7 HU7 D7 b7 HP7 E7 hpe
  have y0 := (E9.out.cell 0).trans (show _ = some (.int .i64 te) from rfl)
  have y1 := (E9.out.cell 1).trans (show _ = some (.int .i64 no) from rfl)
  have y2 := (E9.out.cell 2).trans (show _ = some (.slice R ro.length rc) from rfl)
  have y3 := (E9.out.cell 3).trans (show _ = some (.slice O ol.length oc) from rfl)
  have y4 := (E9.out.cell 4).trans (show _ = some (.slice G go.length gc) from rfl)
  have y5 := (E9.out.cell 5).trans (show _ = some (.slice T tl.length tc) from rfl)
  have z0 := (F9.out.cell 0).trans (show _ = some (.int .i64 te) from rfl)
  have z1 := (F9.out.cell 1).trans (show _ = some (.int .i64 no) from rfl)
  have z2 := (F9.out.cell 2).trans (show _ = some (.slice R' ro.length rc') from rfl)
  have z3 := (F9.out.cell 3).trans (show _ = some (.slice O' ol.length oc') from rfl)
  have z4 := (F9.out.cell 4).trans (show _ = some (.slice G' go.length gc') from rfl)
  have z5 := (F9.out.cell 5).trans (show _ = some (.slice T' tl.length tc') from rfl)
  have C5 := same18_any R O G T R' O' G' T' ro.length ol.length go.length tl.length rc oc gc tc ro.length ol.length go.length tl.length rc' oc' gc' tc' ⟨te, no, ro, ol, go, tl⟩ ⟨te, no, ro, ol, go, tl⟩ (w8.alloc (.cells #[.int .i64 te, .int .i64 no, .slice R' ro.length rc', .slice O' ol.length oc', .slice G' go.length gc', .slice T' tl.length tc'] 33)) HP9.out HQ9.out n1 n2 n3 n4 n1 n2 n3 n4
  rw [decide_eq_true (show (⟨te, no, ro, ol, go, tl⟩ : Pk) = ⟨te, no, ro, ol, go, tl⟩ from rfl)] at C5
  have hee : (er == er) = true := by simp
  go_wp2_with fail
  clear y0 y1 y2 y3 y4 y5 z0 z1 z2 z3 z4 z5
  generalize (w8.alloc (.cells #[.int .i64 te, .int .i64 no, .slice R' ro.length rc', .slice O' ol.length oc', .slice G' go.length gc', .slice T' tl.length tc'] 33)) = w9 at *
  refine C5.mono ?_
  rintro e w10 ⟨rfl, hb10⟩
  have b10 := hide (below_both b9.out hb10 b9.out.size)
  have R10 := hide (R9.out.below hb10 R9.out.lt)
  have D10 := hide (D9.out.below hb10 D9.out.lt)
  have C6 := same17_any A' B' A B n m c' d' n m c d t t w10 (HU9.out.below hb10) (HT9.out.below hb10) l1 l2 l1 l2
  rw [decide_eq_true (show t = t from rfl)] at C6
  clear C5 hb10 R9 HT9 HU9 D9 HP9 E9 HQ9 F9 b9
  have x0 := (R10.out.cell 0).trans (show _ = some (.slice A n c) from rfl)
  have x1 := (R10.out.cell 1).trans (show _ = some (.slice B m d) from rfl)
  have u0 := (D10.out.cell 0).trans (show _ = some (.slice A' n c') from rfl)
  have u1 := (D10.out.cell 1).trans (show _ = some (.slice B' m d') from rfl)
  go_wp2_with fail
  clear x0 x1 u0 u1
  refine C6.mono ?_
  rintro e w11 ⟨rfl, hb11⟩
  have b11 := hide (below_both b10.out hb11 b10.out.size)
  clear C6 hb11
  go_wp2_with fail
  go_ret
  exact ⟨rfl, b11.out⟩
end Go.Proofs.Ytfldbkioepcghaa
