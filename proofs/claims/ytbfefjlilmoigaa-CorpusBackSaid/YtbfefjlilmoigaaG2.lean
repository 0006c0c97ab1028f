/- The walk of CorpusBack. -/
import Derived.Test.YtbfefjlilmoigaaF2
namespace Go.Proofs.Ytbfefjlilmoigaa
open Go.RowKit
set_option linter.unusedVariables false

set_option maxHeartbeats 2000000 in
set_option maxRecDepth 100000 in
theorem law_back29 (g : Nat) (A : Option Addr) (n c : Nat) (l : List Cas) (w : World) (hl : Cases w A n l) (hok : ∀ x ∈ l, x.ok) (hg : g < 4294967296) (hn : n ≤ 9223372036854775807) :
    Calls Try.prog 15 #[.agg #[.int .u32 (g : Int), .slice A n c]] w fun e w' => e = .returned (.bool true) ∧ Below w.heap.size w w' := by
  have HL := hide (hl.below (below_alloc w (.cells #[.int .u32 (g : Int), .slice A n c] 37)))
  have HK := hide hok
  have R1 : Hid (Row (w.alloc (.cells #[.int .u32 (g : Int), .slice A n c] 37)) w.heap.size 37 #[.int .u32 (g : Int), .slice A n c]) := Row.new _ _ _
  have B1 := hide (below_alloc w (.cells #[.int .u32 (g : Int), .slice A n c] 37))
  clear hl hok
  go_enter Try.func15, Try.ntmps15
  go_wp2_with fail
  generalize w.alloc (.cells #[.int .u32 (g : Int), .slice A n c] 37) = w1 at *
  refine (alive29 _).mono ?_
  rintro e w2 ⟨rfl, hbel2⟩
  have HL := hide (HL.out.below hbel2)
  have R2 := hide (R1.out.below hbel2 R1.out.lt)
  have B2 := hide (below_both B1.out hbel2 B1.out.size)
  clear hbel2
  have x0 := (R2.out.cell 0).trans (show _ = some (.int .u32 (g : Int)) from rfl)
  have x1 := (R2.out.cell 1).trans (show _ = some (.slice A n c) from rfl)
  go_wp2_with fail
  clear x0 x1
  have CG := great_any g A n c l w2 HL.out HK.out
  cases hgr : greatC l with
  | true =>
    rw [hgr] at CG
    refine CG.mono ?_
    rintro e w3 ⟨rfl, hbel3⟩
    have B3 := hide (below_both B2.out hbel3 B2.out.size)
    clear CG hbel3 hgr
    go_wp2_with fail
    go_ret
    exact ⟨rfl, B3.out⟩
  | false =>
    rw [hgr] at CG
    refine CG.mono ?_
    rintro e w3 ⟨rfl, hbel3⟩
    have HL := hide (HL.out.below hbel3)
    have R3 := hide (R2.out.below hbel3 R2.out.lt)
    have B3 := hide (below_both B2.out hbel3 B2.out.size)
    clear CG hbel3 hgr
    have x0 := (R3.out.cell 0).trans (show _ = some (.int .u32 (g : Int)) from rfl)
    have x1 := (R3.out.cell 1).trans (show _ = some (.slice A n c) from rfl)
    go_wp2_with fail
    clear x0 x1
    have CE := enc_any g A n c l w3 HL.out hg
    unfold EncPost at CE
    cases hr : rightC l with
    | false =>
      rw [show encB g l = ([], 1) by unfold encB; rw [hr]; rfl] at CE
      dsimp only at CE
      refine CE.mono ?_
      rintro e w4 ⟨v4, rfl, hown4, hbel4⟩
      obtain ⟨A4, c4, rfl, _⟩ := hown4.form
      have HL := hide (HL.out.below hbel4)
      have R4 := hide (R3.out.below hbel4 R3.out.lt)
      have B4 := hide (below_both B3.out hbel4 B3.out.size)
      have x0 := (R4.out.cell 0).trans (show _ = some (.int .u32 (g : Int)) from rfl)
      have x1 := (R4.out.cell 1).trans (show _ = some (.slice A n c) from rfl)
      have C6 := rright_any g A n c l w4 HL.out
      rw [hr] at C6
      clear CE hbel4 hown4 hr
      go_wp2_with fail
      refine C6.mono ?_
      rintro e w6 ⟨rfl, hbel6⟩
      have B6 := hide (below_both B4.out hbel6 B4.out.size)
      clear C6 hbel6
      go_wp2_with fail
      go_ret
      exact ⟨rfl, B6.out⟩
    | true =>
      by_cases h6 : 60000 < (frameB (corB g l)).length
      · rw [show encB g l = ([], 5) by unfold encB; rw [hr, if_pos rfl, if_pos h6]] at CE
        dsimp only at CE
        refine CE.mono ?_
        rintro e w4 ⟨v4, rfl, hown4, hbel4⟩
        obtain ⟨A4, c4, rfl, _⟩ := hown4.form
        have HL := hide (HL.out.below hbel4)
        have R4 := hide (R3.out.below hbel4 R3.out.lt)
        have B4 := hide (below_both B3.out hbel4 B3.out.size)
        have x0 := (R4.out.cell 0).trans (show _ = some (.int .u32 (g : Int)) from rfl)
        have x1 := (R4.out.cell 1).trans (show _ = some (.slice A n c) from rfl)
        have C6 := rright_any g A n c l w4 HL.out
        rw [hr] at C6
        clear CE hbel4 hown4 hr h6
        go_wp2_with fail
        refine C6.mono ?_
        rintro e w6 ⟨rfl, hbel6⟩
        have B6 := hide (below_both B4.out hbel6 B4.out.size)
        clear C6 hbel6
        go_wp2_with fail
        go_ret
        exact ⟨rfl, B6.out⟩
      · rw [show encB g l = (frameB (corB g l), 0) by unfold encB; rw [hr, if_pos rfl, if_neg h6]] at CE
        have hd := hide (decB_enc g l hg hr (by omega))
        dsimp only at CE
        refine CE.mono ?_
        rintro e w4 ⟨v4, rfl, hown4, hbel4⟩
        obtain ⟨A4, L4, c4, hv4, hL4, hB4, hcc4⟩ := hown4.form2
        subst hv4
        have hL6 : L4 ≤ 60000 := by have := hL4.out; omega
        have HL := hide (HL.out.below hbel4)
        have R4 := hide (R3.out.below hbel4 R3.out.lt)
        have B4 := hide (below_both B3.out hbel4 B3.out.size)
        clear CE hbel4 hown4 hr h6 hL4
        go_wp2_with fail
        have CD := dec_any A4 L4 c4 (frameB (corB g l)) w4 hB4 (by omega) hcc4.1
        unfold DecPost at CD
        rw [hd.out] at CD
        dsimp only at CD
        refine CD.mono ?_
        rintro e w5 ⟨v5, rfl, hoc5, hbel5⟩
        obtain ⟨A5, c5, rfl⟩ := hoc5.slice
        have hcs := hide (hoc5.cases.below (below_alloc _ (.cells #[.int .u32 (g : Int), .slice A5 l.length c5] 37)))
        have r6 : Row (w5.alloc (.cells #[.int .u32 (g : Int), .slice A5 l.length c5] 37)) w5.heap.size 37 #[.int .u32 (g : Int), .slice A5 l.length c5] := Row.new _ _ _
        have hbel6 : Below w4.heap.size w4 (w5.alloc (.cells #[.int .u32 (g : Int), .slice A5 l.length c5] 37)) := hbel5.alloc hbel5.size _
        have HL := hide (HL.out.below hbel6)
        have R6 := R4.out.below hbel6 R4.out.lt
        have B6 := hide (below_both B4.out hbel6 B4.out.size)
        have x0 := (R6.cell 0).trans (show _ = some (.int .u32 (g : Int)) from rfl)
        have x1 := (R6.cell 1).trans (show _ = some (.slice A n c) from rfl)
        have y0 := (r6.cell 0).trans (show _ = some (.int .u32 (g : Int)) from rfl)
        have y1 := (r6.cell 1).trans (show _ = some (.slice A5 l.length c5) from rfl)
        have hln := HL.out.1
        have CS := rsame_any g g A5 A l.length n c5 c l l (w5.alloc (.cells #[.int .u32 (g : Int), .slice A5 l.length c5] 37)) hcs.out HL.out (by omega) (by omega)
        rw [show sameC g g l l = true by simp [sameC]] at CS
        clear CD hbel5 hoc5 r6 R6 hbel6 hd hB4 hcc4 hln
        go_wp2_with fail
        refine CS.mono ?_
        rintro e w7 ⟨rfl, hbel7⟩
        have B7 := hide (below_both B6.out hbel7 B6.out.size)
        clear CS hbel7 x0 x1 y0 y1
        go_wp2_with fail
        go_ret
        exact ⟨rfl, B7.out⟩
end Go.Proofs.Ytbfefjlilmoigaa
