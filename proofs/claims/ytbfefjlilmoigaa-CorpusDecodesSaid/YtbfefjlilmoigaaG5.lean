/- The walk of CorpusDecodes. -/
import Derived.Test.YtbfefjlilmoigaaF2
import Derived.Test.YtbfefjlilmoigaaE8
namespace Go.Proofs.Ytbfefjlilmoigaa
open Go.RowKit
set_option linter.unusedVariables false

set_option maxHeartbeats 2000000 in
set_option maxRecDepth 100000 in
theorem law_decodes29 (A : Option Addr) (n c : Nat) (bs : List UInt8) (f : Bool) (w : World) (hb : Bytes w A n bs) (hnc : n ≤ c) :
    Calls Try.prog 14 #[.slice A n c, .bool f] w fun e w' => e = .returned (.bool true) ∧ Below w.heap.size w w' := by
  have H := hide hb
  clear hb
  by_cases h20 : 61000 < n
  · have hgt : decide (61000 < (n : Int)) = true := by simp; omega
    go_enter Try.func14, Try.ntmps14
    go_wp2_with fail
    refine (alive29 _).mono ?_
    rintro e w1 ⟨rfl, hbel1⟩
    go_wp2_with fail
    go_ret
    exact ⟨rfl, hbel1⟩
  have hgt : decide (61000 < (n : Int)) = false := by simp; omega
  cases f with
  | false =>
    go_enter Try.func14, Try.ntmps14
    go_wp2_with fail
    refine (alive29 _).mono ?_
    rintro e w1 ⟨rfl, hbel1⟩
    have HB1 := hide (H.out.below hbel1)
    have hbl1 := hide hbel1
    clear hbel1
    have hlb : Hid (bs.length = n) := HB1.out.len
    go_wp2_with (at_builtin; refine appB w1.heap.size (Own.empty w1) (HB1.out.below (below_alloc _ _)) (by simp only [List.length_nil]; omega) (by simp) rfl _ _ rfl rfl _ rfl ?_)
    intro v3 w3 hown3 hbel3
    obtain ⟨A3, c3, hv3, hB3, hcc3, _⟩ := hown3.form
    rw [hlb.out] at hv3 hB3 hcc3
    subst hv3
    have hbel3' : Below w1.heap.size w1 w3 := (below_alloc w1 _).trans hbel3
    have HB3 := hide (HB1.out.below hbel3')
    have HO3 := hide hB3
    have bl3 := hide (below_both hbl1.out hbel3' hbl1.out.size)
    clear hown3 hbel3 hbel3' hB3
    go_wp2_with fail
    obtain ⟨g, l, er, hd⟩ : ∃ g l er, decB bs = (g, l, er) := ⟨_, _, _, rfl⟩
    have CD := dec_any A3 n c3 bs w3 HO3.out (by omega) hcc3
    unfold DecPost at CD
    rw [hd] at CD
    dsimp only at CD
    have hd' := hide hd
    clear hd
    refine CD.mono ?_
    rintro e w4 ⟨v4, rfl, hoc4, hbel4⟩
    obtain ⟨A4, c4, rfl⟩ := hoc4.slice
    have hbel5 : Below w3.heap.size w3 (w4.alloc (.cells #[.int .u32 (g : Int), .slice A4 l.length c4] 37)) := hbel4.alloc hbel4.size _
    have HC5 := hide (hoc4.cases.below (below_alloc _ (.cells #[.int .u32 (g : Int), .slice A4 l.length c4] 37)))
    have R5 : Hid (Row (w4.alloc (.cells #[.int .u32 (g : Int), .slice A4 l.length c4] 37)) w4.heap.size 37 #[.int .u32 (g : Int), .slice A4 l.length c4]) := Row.new _ _ _
    have HB5 := hide (HB3.out.below hbel5)
    have HO5 := hide (HO3.out.below hbel5)
    have bl5 := hide (below_both bl3.out hbel5 bl3.out.size)
    clear CD hbel4 hbel5 hoc4 HB3 HO3 bl3
    go_wp2_with fail
    generalize w4.alloc (.cells #[.int .u32 (g : Int), .slice A4 l.length c4] 37) = w5 at *
    generalize w4.heap.size = p5 at *
    have CD := rdec_any A n c bs w5 HB5.out (by omega) hnc
    unfold DecPost at CD
    rw [hd'.out] at CD
    dsimp only at CD
    refine CD.mono ?_
    rintro e w6 ⟨v6, rfl, hoc6, hbel6⟩
    obtain ⟨A6, c6, rfl⟩ := hoc6.slice
    have hln : l.length ≤ 9223372036854775807 := by
      rcases hoc6 with ⟨us, ⟨_, h⟩, _⟩
      rcases h with ⟨_, h0⟩ | ⟨_, _, _, _, _, _, h1, h2, _⟩
      · omega
      · unfold maxLen at h2; omega
    have hbel7 : Below w5.heap.size w5 (w6.alloc (.cells #[.int .u32 (g : Int), .slice A6 l.length c6] 37)) := hbel6.alloc hbel6.size _
    have HC7 := hide (hoc6.cases.below (below_alloc _ (.cells #[.int .u32 (g : Int), .slice A6 l.length c6] 37)))
    have R7 : Hid (Row (w6.alloc (.cells #[.int .u32 (g : Int), .slice A6 l.length c6] 37)) w6.heap.size 37 #[.int .u32 (g : Int), .slice A6 l.length c6]) := Row.new _ _ _
    have HC5 := hide (HC5.out.below hbel7)
    have R5 := hide (R5.out.below hbel7 R5.out.lt)
    have HB7 := hide (HB5.out.below hbel7)
    have HO7 := hide (HO5.out.below hbel7)
    have bl7 := hide (below_both bl5.out hbel7 bl5.out.size)
    have x0 := (R5.out.cell 0).trans (show _ = some (.int .u32 (g : Int)) from rfl)
    have x1 := (R5.out.cell 1).trans (show _ = some (.slice A4 l.length c4) from rfl)
    have y0 := (R7.out.cell 0).trans (show _ = some (.int .u32 (g : Int)) from rfl)
    have y1 := (R7.out.cell 1).trans (show _ = some (.slice A6 l.length c6) from rfl)
    clear CD hbel6 hbel7 hoc6 HB5 HO5 bl5 hd'
    go_wp2_with fail
    clear x0 x1 y0 y1
    generalize w6.alloc (.cells #[.int .u32 (g : Int), .slice A6 l.length c6] 37) = w7 at *
    have CS := rsame_any g g A4 A6 l.length l.length c4 c6 l l w7 HC5.out HC7.out hln hln
    rw [show sameC g g l l = true by simp [sameC]] at CS
    refine CS.mono ?_
    rintro e w8 ⟨rfl, hbel8⟩
    have k1 := (HO7.out.below hbel8).convert c3
    have k2 := (HB7.out.below hbel8).convert c
    have bl8 := hide (below_both bl7.out hbel8 bl7.out.size)
    clear CS hbel8 HC5 HC7 R5 R7 HB7 HO7 bl7 hlb
    go_wp2_with fail
    go_ret
    exact ⟨rfl, bl8.out⟩
  | true =>
    go_enter Try.func14, Try.ntmps14
    go_wp2_with fail
    refine (alive29 _).mono ?_
    rintro e w1 ⟨rfl, hbel1⟩
    have HB1 := hide (H.out.below hbel1)
    have hbl1 := hide hbel1
    clear hbel1
    go_wp2_with fail
    refine (rframe_any A n c bs w1 HB1.out (by omega)).mono ?_
    rintro e w2 ⟨v2, rfl, hown2, hbel2⟩
    have hnl := HB1.out.len
    obtain ⟨A2, L2, c2, hv2, hL2, hB2, hcc2⟩ := hown2.form2
    have hL24 : L2 ≤ 61004 := by have := hL2.out; rw [frameB_len] at this; omega
    have hcc := hcc2.1
    subst hv2
    generalize frameB bs = fs at *
    have HB2 := hide hB2
    have hbl2 := hide (below_both hbl1.out hbel2 hbl1.out.size)
    clear hown2 hB2 hbel2 hcc2 hL2 hnl HB1 hbl1 hnc
    have hlb : Hid (fs.length = L2) := HB2.out.len
    go_wp2_with (at_builtin; refine appB w2.heap.size (Own.empty w2) (HB2.out.below (below_alloc _ _)) (by simp only [List.length_nil]; omega) (by simp) rfl _ _ rfl rfl _ rfl ?_)
    intro v3 w3 hown3 hbel3
    obtain ⟨A3, c3, hv3, hB3, hcc3, _⟩ := hown3.form
    rw [hlb.out] at hv3 hB3 hcc3
    subst hv3
    have hbel3' : Below w2.heap.size w2 w3 := (below_alloc w2 _).trans hbel3
    have HB3 := hide (HB2.out.below hbel3')
    have HO3 := hide hB3
    have bl3 := hide (below_both hbl2.out hbel3' hbl2.out.size)
    clear hown3 hbel3 hbel3' hB3
    go_wp2_with fail
    obtain ⟨g, l, er, hd⟩ : ∃ g l er, decB fs = (g, l, er) := ⟨_, _, _, rfl⟩
    have CD := dec_any A3 L2 c3 fs w3 HO3.out (by omega) hcc3
    unfold DecPost at CD
    rw [hd] at CD
    dsimp only at CD
    have hd' := hide hd
    clear hd
    refine CD.mono ?_
    rintro e w4 ⟨v4, rfl, hoc4, hbel4⟩
    obtain ⟨A4, c4, rfl⟩ := hoc4.slice
    have hbel5 : Below w3.heap.size w3 (w4.alloc (.cells #[.int .u32 (g : Int), .slice A4 l.length c4] 37)) := hbel4.alloc hbel4.size _
    have HC5 := hide (hoc4.cases.below (below_alloc _ (.cells #[.int .u32 (g : Int), .slice A4 l.length c4] 37)))
    have R5 : Hid (Row (w4.alloc (.cells #[.int .u32 (g : Int), .slice A4 l.length c4] 37)) w4.heap.size 37 #[.int .u32 (g : Int), .slice A4 l.length c4]) := Row.new _ _ _
    have HB5 := hide (HB3.out.below hbel5)
    have HO5 := hide (HO3.out.below hbel5)
    have bl5 := hide (below_both bl3.out hbel5 bl3.out.size)
    clear CD hbel4 hbel5 hoc4 HB3 HO3 bl3
    go_wp2_with fail
    generalize w4.alloc (.cells #[.int .u32 (g : Int), .slice A4 l.length c4] 37) = w5 at *
    generalize w4.heap.size = p5 at *
    have CD := rdec_any A2 L2 c2 fs w5 HB5.out (by omega) hcc
    unfold DecPost at CD
    rw [hd'.out] at CD
    dsimp only at CD
    refine CD.mono ?_
    rintro e w6 ⟨v6, rfl, hoc6, hbel6⟩
    obtain ⟨A6, c6, rfl⟩ := hoc6.slice
    have hln : l.length ≤ 9223372036854775807 := by
      rcases hoc6 with ⟨us, ⟨_, h⟩, _⟩
      rcases h with ⟨_, h0⟩ | ⟨_, _, _, _, _, _, h1, h2, _⟩
      · omega
      · unfold maxLen at h2; omega
    have hbel7 : Below w5.heap.size w5 (w6.alloc (.cells #[.int .u32 (g : Int), .slice A6 l.length c6] 37)) := hbel6.alloc hbel6.size _
    have HC7 := hide (hoc6.cases.below (below_alloc _ (.cells #[.int .u32 (g : Int), .slice A6 l.length c6] 37)))
    have R7 : Hid (Row (w6.alloc (.cells #[.int .u32 (g : Int), .slice A6 l.length c6] 37)) w6.heap.size 37 #[.int .u32 (g : Int), .slice A6 l.length c6]) := Row.new _ _ _
    have HC5 := hide (HC5.out.below hbel7)
    have R5 := hide (R5.out.below hbel7 R5.out.lt)
    have HB7 := hide (HB5.out.below hbel7)
    have HO7 := hide (HO5.out.below hbel7)
    have bl7 := hide (below_both bl5.out hbel7 bl5.out.size)
    have x0 := (R5.out.cell 0).trans (show _ = some (.int .u32 (g : Int)) from rfl)
    have x1 := (R5.out.cell 1).trans (show _ = some (.slice A4 l.length c4) from rfl)
    have y0 := (R7.out.cell 0).trans (show _ = some (.int .u32 (g : Int)) from rfl)
    have y1 := (R7.out.cell 1).trans (show _ = some (.slice A6 l.length c6) from rfl)
    clear CD hbel6 hbel7 hoc6 HB5 HO5 bl5 hd'
    go_wp2_with fail
    clear x0 x1 y0 y1
    generalize w6.alloc (.cells #[.int .u32 (g : Int), .slice A6 l.length c6] 37) = w7 at *
    have CS := rsame_any g g A4 A6 l.length l.length c4 c6 l l w7 HC5.out HC7.out hln hln
    rw [show sameC g g l l = true by simp [sameC]] at CS
    refine CS.mono ?_
    rintro e w8 ⟨rfl, hbel8⟩
    have k1 := (HO7.out.below hbel8).convert c3
    have k2 := (HB7.out.below hbel8).convert c2
    have bl8 := hide (below_both bl7.out hbel8 bl7.out.size)
    clear CS hbel8 HC5 HC7 R5 R7 HB7 HO7 bl7 hlb
    go_wp2_with fail
    go_ret
    exact ⟨rfl, bl8.out⟩
end Go.Proofs.Ytbfefjlilmoigaa
