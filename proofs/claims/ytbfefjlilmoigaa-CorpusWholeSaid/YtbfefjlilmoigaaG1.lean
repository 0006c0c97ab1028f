/- The walk of CorpusWhole. -/
import Derived.Test.YtbfefjlilmoigaaF2
namespace Go.Proofs.Ytbfefjlilmoigaa
open Go.RowKit
set_option linter.unusedVariables false

set_option maxHeartbeats 2000000 in
set_option maxRecDepth 100000 in
theorem law_whole29 (A : Option Addr) (n c : Nat) (bs : List UInt8) (f : Bool) (w : World) (hb : Bytes w A n bs) (hnc : n ≤ c) :
    Calls Try.prog 7 #[.slice A n c, .bool f] w fun e w' => e = .returned (.bool true) ∧ Below w.heap.size w w' := by
  have H := hide hb
  clear hb
  by_cases h20 : 20000 < n
  · have hgt : decide (20000 < (n : Int)) = true := by simp; omega
    go_enter Try.func7, Try.ntmps7
    go_wp2_with fail
    refine (alive29 _).mono ?_
    rintro e w1 ⟨rfl, hbel1⟩
    go_wp2_with fail
    go_ret
    exact ⟨rfl, hbel1⟩
  have hgt : decide (20000 < (n : Int)) = false := by simp; omega
  cases f with
  | false =>
    go_enter Try.func7, Try.ntmps7
    go_wp2_with fail
    refine (alive29 _).mono ?_
    rintro e w1 ⟨rfl, hbel1⟩
    have HB1 := hide (H.out.below hbel1)
    have hbl1 := hide hbel1
    clear hbel1
    obtain ⟨g, l, er, hd⟩ : ∃ g l er, decB bs = (g, l, er) := ⟨_, _, _, rfl⟩
    have hg : g < 4294967296 := by have := decB_lt bs; rw [hd] at this; exact this
    have C3 := dec_any A n c bs w1 HB1.out (by omega) hnc
    unfold DecPost at C3
    rw [hd] at C3
    dsimp only at C3
    have hd' := hide hd
    clear hd
    go_wp2_with fail
    refine C3.mono ?_
    rintro e w3 ⟨v3, rfl, hoc3, hbel3⟩
    clear C3
    obtain ⟨A3, c3, rfl⟩ := hoc3.slice
    have hcs := hide (hoc3.cases.below (below_alloc _ (.cells #[.int .u32 (g : Int), .slice A3 l.length c3] 37)))
    have hr4 : Row (w3.alloc (.cells #[.int .u32 (g : Int), .slice A3 l.length c3] 37)) w3.heap.size 37 #[.int .u32 (g : Int), .slice A3 l.length c3] := Row.new _ _ _
    have HB4 := hide ((HB1.out.below hbel3).below (below_alloc _ (.cells #[.int .u32 (g : Int), .slice A3 l.length c3] 37)))
    have hb3 := below_both hbl1.out hbel3 hbl1.out.size
    have hb4 : Hid (Below w.heap.size w (w3.alloc (.cells #[.int .u32 (g : Int), .slice A3 l.length c3] 37))) := hb3.alloc hb3.size _
    clear hoc3 hbel3 hb3
    by_cases he : er = 0
    · have hj := decB_just (bs := bs) (by rw [hd'.out]; exact he)
      rw [hd'.out] at hj
      dsimp only at hj
      obtain ⟨j1, j2, j3, j4⟩ := hj
      have he' : ((er : Int) != 0) = false := by simp [he]
      have hec : Hid (encB g l = (bs, 0)) := by
        show _ = _
        unfold encB
        rw [if_pos j2, j1, if_neg (by omega)]
      have hrt := hide j2
      clear j1 j2 j3 hd' he
      go_wp2_with fail
      have HR4 := hide hr4
      clear hr4
      generalize w3.alloc (.cells #[.int .u32 (g : Int), .slice A3 l.length c3] 37) = w4 at *
      have C5 := enc_any g A3 l.length c3 l w4 hcs.out hg
      unfold EncPost at C5
      rw [hec.out] at C5
      dsimp only at C5
      refine C5.mono ?_
      rintro e w5 ⟨v5, rfl, hown5, hbel5⟩
      obtain ⟨A5, c5, hv5, hB5, hc5, hm5⟩ := hown5.form
      have hlb := HB4.out.len
      rw [hlb] at hv5 hB5 hc5
      subst hv5
      have r5 := HR4.out.below hbel5 HR4.out.lt
      have x0 := (r5.cell 0).trans (show _ = some (.int .u32 (g : Int)) from rfl)
      have x1 := (r5.cell 1).trans (show _ = some (.slice A3 l.length c3) from rfl)
      have k1 := hB5.convert c5
      have k2 := (HB4.out.below hbel5).convert c
      have C6 := rright_any g A3 l.length c3 l w5 (hcs.out.below hbel5)
      rw [hrt.out] at C6
      have hb5 := hide (below_both hb4.out hbel5 hb4.out.size)
      clear hbel5 hB5 hown5 r5 C5
      go_wp2_with fail
      refine C6.mono ?_
      rintro e w6 ⟨rfl, hbel6⟩
      clear C6 k1 k2
      have hb6 := hide (below_both hb5.out hbel6 hb5.out.size)
      clear hbel6
      go_wp2_with fail
      go_ret
      exact ⟨rfl, hb6.out⟩
    · have hj := decB_bad (bs := bs) (by rw [hd'.out]; exact he)
      rw [hd'.out] at hj
      dsimp only at hj
      obtain ⟨rfl, rfl⟩ := hj
      have he' : ((er : Int) != 0) = true := by simp; omega
      have x0 := (hr4.cell 0).trans (show _ = some (.int .u32 0) from rfl)
      have x1 := (hr4.cell 1).trans (show _ = some (.slice A3 0 c3) from rfl)
      clear hr4 hd' he hg hgt
      go_wp2_with fail
      go_ret
      exact ⟨rfl, hb4.out⟩
  | true =>
    go_enter Try.func7, Try.ntmps7
    go_wp2_with fail
    refine (alive29 _).mono ?_
    rintro e w1 ⟨rfl, hbel1⟩
    have HB1 := hide (H.out.below hbel1)
    have hbl1 := hide hbel1
    clear hbel1
    go_wp2_with fail
    refine (rframe_any A n c bs w1 HB1.out (by omega)).mono ?_
    rintro e w2 ⟨v2, rfl, hown2, hbel2⟩
    have hnl := HB1.out.len
    obtain ⟨A2, L2, c2, hv2, hL2, hB2, hcc2⟩ := hown2.form2
    have hL24 : L2 ≤ 20004 := by have := hL2.out; rw [frameB_len] at this; omega
    have hcc := hcc2.1
    subst hv2
    generalize frameB bs = fs at *
    have HB2 := hide hB2
    have hbl2 := hide (below_both hbl1.out hbel2 hbl1.out.size)
    clear hown2 hB2 hbel2 hcc2 hL2 hnl HB1 hbl1 hnc
    obtain ⟨g, l, er, hd⟩ : ∃ g l er, decB fs = (g, l, er) := ⟨_, _, _, rfl⟩
    have hg : g < 4294967296 := by have := decB_lt fs; rw [hd] at this; exact this
    have C3 := dec_any A2 L2 c2 fs w2 HB2.out (by omega) hcc
    unfold DecPost at C3
    rw [hd] at C3
    dsimp only at C3
    have hd' := hide hd
    clear hd
    go_wp2_with fail
    refine C3.mono ?_
    rintro e w3 ⟨v3, rfl, hoc3, hbel3⟩
    clear C3
    obtain ⟨A3, c3, rfl⟩ := hoc3.slice
    have hcs := hide (hoc3.cases.below (below_alloc _ (.cells #[.int .u32 (g : Int), .slice A3 l.length c3] 37)))
    have hr4 : Row (w3.alloc (.cells #[.int .u32 (g : Int), .slice A3 l.length c3] 37)) w3.heap.size 37 #[.int .u32 (g : Int), .slice A3 l.length c3] := Row.new _ _ _
    have HB4 := hide ((HB2.out.below hbel3).below (below_alloc _ (.cells #[.int .u32 (g : Int), .slice A3 l.length c3] 37)))
    have hb3 := below_both hbl2.out hbel3 hbl2.out.size
    have hb4 : Hid (Below w.heap.size w (w3.alloc (.cells #[.int .u32 (g : Int), .slice A3 l.length c3] 37))) := hb3.alloc hb3.size _
    clear hoc3 hbel3 hb3
    by_cases he : er = 0
    · have hj := decB_just (bs := fs) (by rw [hd'.out]; exact he)
      rw [hd'.out] at hj
      dsimp only at hj
      obtain ⟨j1, j2, j3, j4⟩ := hj
      have he' : ((er : Int) != 0) = false := by simp [he]
      have hec : Hid (encB g l = (fs, 0)) := by
        show _ = _
        unfold encB
        rw [if_pos j2, j1, if_neg (by omega)]
      have hrt := hide j2
      clear j1 j2 j3 hd' he
      go_wp2_with fail
      have HR4 := hide hr4
      clear hr4
      generalize w3.alloc (.cells #[.int .u32 (g : Int), .slice A3 l.length c3] 37) = w4 at *
      have C5 := enc_any g A3 l.length c3 l w4 hcs.out hg
      unfold EncPost at C5
      rw [hec.out] at C5
      dsimp only at C5
      refine C5.mono ?_
      rintro e w5 ⟨v5, rfl, hown5, hbel5⟩
      obtain ⟨A5, c5, hv5, hB5, hc5, hm5⟩ := hown5.form
      have hlb := HB4.out.len
      rw [hlb] at hv5 hB5 hc5
      subst hv5
      have r5 := HR4.out.below hbel5 HR4.out.lt
      have x0 := (r5.cell 0).trans (show _ = some (.int .u32 (g : Int)) from rfl)
      have x1 := (r5.cell 1).trans (show _ = some (.slice A3 l.length c3) from rfl)
      have k1 := hB5.convert c5
      have k2 := (HB4.out.below hbel5).convert c2
      have C6 := rright_any g A3 l.length c3 l w5 (hcs.out.below hbel5)
      rw [hrt.out] at C6
      have hb5 := hide (below_both hb4.out hbel5 hb4.out.size)
      clear hbel5 hB5 hown5 r5 C5
      go_wp2_with fail
      refine C6.mono ?_
      rintro e w6 ⟨rfl, hbel6⟩
      clear C6 k1 k2
      have hb6 := hide (below_both hb5.out hbel6 hb5.out.size)
      clear hbel6
      go_wp2_with fail
      go_ret
      exact ⟨rfl, hb6.out⟩
    · have hj := decB_bad (bs := fs) (by rw [hd'.out]; exact he)
      rw [hd'.out] at hj
      dsimp only at hj
      obtain ⟨rfl, rfl⟩ := hj
      have he' : ((er : Int) != 0) = true := by simp; omega
      have x0 := (hr4.cell 0).trans (show _ = some (.int .u32 0) from rfl)
      have x1 := (hr4.cell 1).trans (show _ = some (.slice A3 0 c3) from rfl)
      clear hr4 hd' he hg hgt
      go_wp2_with fail
      go_ret
      exact ⟨rfl, hb4.out⟩
end Go.Proofs.Ytbfefjlilmoigaa
