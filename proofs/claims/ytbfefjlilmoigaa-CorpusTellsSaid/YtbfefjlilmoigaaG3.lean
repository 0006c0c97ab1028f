/- The walk of CorpusTells. -/
import Derived.Test.YtbfefjlilmoigaaF2
import Derived.Test.YtbfefjlilmoigaaL4
namespace Go.Proofs.Ytbfefjlilmoigaa
open Go.RowKit
set_option linter.unusedVariables false

set_option maxHeartbeats 2000000 in
set_option maxRecDepth 100000 in
theorem law_tells29 (g : Nat) (A : Option Addr) (n c : Nat) (l : List Cas) (at_ q : Nat) (w : World) (hl : Cases w A n l) (hok : ∀ x ∈ l, x.ok) (hg : g < 4294967296) (hn : n ≤ 9223372036854775807) (hat : at_ < 4294967296) (hbits : q < 4294967296) :
    Calls Try.prog 9 #[.agg #[.int .u32 (g : Int), .slice A n c], .int .u32 at_, .int .u32 q] w fun e w' => e = .returned (.bool true) ∧ Below w.heap.size w w' := by
  have HL := hide (hl.below (below_alloc w (.cells #[.int .u32 (g : Int), .slice A n c] 37)))
  have HK := hide hok
  have R1 : Hid (Row (w.alloc (.cells #[.int .u32 (g : Int), .slice A n c] 37)) w.heap.size 37 #[.int .u32 (g : Int), .slice A n c]) := Row.new _ _ _
  have B1 := hide (below_alloc w (.cells #[.int .u32 (g : Int), .slice A n c] 37))
  clear hl hok
  go_enter Try.func9, Try.ntmps9
  go_wp2_with fail
  generalize w.alloc (.cells #[.int .u32 (g : Int), .slice A n c] 37) = w1 at *
  refine (alive29 _).mono ?_
  rintro e w2 ⟨rfl, hbel2⟩
  have HL := hide (HL.out.below hbel2)
  have R2 := hide (R1.out.below hbel2 R1.out.lt)
  have B2 := hide (below_both B1.out hbel2 B1.out.size)
  clear hbel2
  have x0 := (R2.out.cell 0).trans (show _ = some (.int .u32 (g : Int)) from rfl)
  have x1 := (R2.out.cell 1).trans (show _ = some (.slice A n c) from rfl)
  go_wp2_with fail
  clear x0 x1
  have CG := great_any g A n c l w2 HL.out HK.out
  cases hgr : greatC l with
  | true =>
    rw [hgr] at CG
    refine CG.mono ?_
    rintro e w3 ⟨rfl, hbel3⟩
    have B3 := hide (below_both B2.out hbel3 B2.out.size)
    clear CG hbel3 hgr
    go_wp2_with fail
    go_ret
    exact ⟨rfl, B3.out⟩
  | false =>
    rw [hgr] at CG
    refine CG.mono ?_
    rintro e w3 ⟨rfl, hbel3⟩
    have HL := hide (HL.out.below hbel3)
    have R3 := hide (R2.out.below hbel3 R2.out.lt)
    have B3 := hide (below_both B2.out hbel3 B2.out.size)
    clear CG hbel3 hgr
    have x0 := (R3.out.cell 0).trans (show _ = some (.int .u32 (g : Int)) from rfl)
    have x1 := (R3.out.cell 1).trans (show _ = some (.slice A n c) from rfl)
    by_cases h0 : q = 0
    · have hz : ((q : Int) == 0) = true := by simp [h0]
      clear h0
      go_wp2_with fail
      go_ret
      exact ⟨rfl, B3.out⟩
    have hz : ((q : Int) == 0) = false := by simp; omega
    have h0' := hide h0; clear h0
    go_wp2_with fail
    clear x0 x1 hz
    have CE := enc_any g A n c l w3 HL.out hg
    unfold EncPost at CE
    cases hr : rightC l with
    | false =>
      rw [show encB g l = ([], 1) by unfold encB; rw [hr]; rfl] at CE
      dsimp only at CE
      refine CE.mono ?_
      rintro e w4 ⟨v4, rfl, hown4, hbel4⟩
      obtain ⟨A4, c4, rfl, _⟩ := hown4.form
      have B4 := hide (below_both B3.out hbel4 B3.out.size)
      clear CE hbel4 hown4 hr
      go_wp2_with fail
      go_ret
      exact ⟨rfl, B4.out⟩
    | true =>
      by_cases h6 : 60000 < (frameB (corB g l)).length
      · rw [show encB g l = ([], 5) by unfold encB; rw [hr, if_pos rfl, if_pos h6]] at CE
        dsimp only at CE
        refine CE.mono ?_
        rintro e w4 ⟨v4, rfl, hown4, hbel4⟩
        obtain ⟨A4, c4, rfl, _⟩ := hown4.form
        have B4 := hide (below_both B3.out hbel4 B3.out.size)
        clear CE hbel4 hown4 hr h6
        go_wp2_with fail
        go_ret
        exact ⟨rfl, B4.out⟩
      · rw [show encB g l = (frameB (corB g l), 0) by unfold encB; rw [hr, if_pos rfl, if_neg h6]] at CE
        dsimp only at CE
        refine CE.mono ?_
        rintro e w4 ⟨v4, rfl, hown4, hbel4⟩
        obtain ⟨m, hm⟩ : ∃ m, m = (corB g l).length := ⟨_, rfl⟩
        have hlen2 : (frameB (corB g l)).length = m + 4 := by rw [frameB_len, hm]
        have hm6 : m + 4 ≤ 60000 := by omega
        obtain ⟨A4, c4, hv4, hB4, hcc4, _⟩ := hown4.form
        rw [hlen2] at hv4 hB4 hcc4
        subst hv4
        have hm' := hide hm.symm
        clear hm
        generalize corB g l = bs at *
        have B4 := hide (below_both B3.out hbel4 B3.out.size)
        have hw2 := hide hlen2
        clear CE hbel4 hown4 hr h6 hlen2
        obtain ⟨fr, efr, hfr⟩ : ∃ fr : Nat, (at_ : Int) % (8 * ((m : Int) + 4) - 31) = (fr : Int) ∧ fr + 32 ≤ 8 * (m + 4) := ⟨at_ % (8 * (m + 4) - 31), by rw [show 8 * ((m : Int) + 4) - 31 = ((8 * (m + 4) - 31 : Nat) : Int) by omega]; rfl, by have := Nat.mod_lt at_ (show 0 < 8 * (m + 4) - 31 by omega); omega⟩
        have hlt4 : decide ((m : Int) + 4 < 4) = false := decide_eq_false (by omega)
        go_wp2_with (at_builtin; refine appB w4.heap.size (Own.empty w4) (hB4.below (below_alloc _ _)) (by first | omega | (simp; omega)) (by simp) rfl _ _ rfl rfl _ rfl ?_)
        intro v5 w5 hown5 hbel5
        have hb5 : Hid (Below w.heap.size w w5) := B4.out.trans (((below_alloc w4 _).trans hbel5).mono B4.out.size)
        obtain ⟨A5, c5, hv5, hB5, hc5, hm5⟩ := hown5.form
        rw [hw2.out] at hv5 hB5 hc5
        subst hv5
        have hs45 : w.heap.size ≤ w4.heap.size := B4.out.size
        obtain ⟨gb, o5, rfl, _⟩ := hB5.2 (by omega)
        have ho5 : o5 = 0 := by
          rcases hown5.2 with ⟨hh, _⟩ | ⟨g', cap, cur, hh, _⟩
          · cases hh
          · injection hh with hh; injection hh with hh; injection hh
        subst ho5
        have h5 := hide hown5
        clear hown5 hB5 hbel5 hB4 hlt4 HL
        go_wp2_with fail
        rw [efr]
        clear efr
        generalize hs4 : w4.heap.size = s4 at *
        go_loopw [11] (fun i wr => ∃ k : Nat, k ≤ 32 ∧ i = .int .i64 k ∧ Hid (∃ fl : List UInt8, fl.length = m + 4 ∧ Own wr s4 (.slice (some ⟨gb, 0, none⟩) (m + 4) c5) fl ∧ Crc.num (nums fl) = Crc.num (nums (frameB bs)) ^^^ (2 ^ fr * (q % 2 ^ k))) ∧ Hid (Below w.heap.size w wr)) (fun i _ => 32 - (intOf i).toNat)
        case atStart => exact ⟨0, by omega, rfl, ⟨frameB bs, hw2.out, h5.out, by simp [Nat.mod_one]⟩, hb5⟩
        case round =>
          obtain ⟨k, hk, rfl, hrow, hbel⟩ := hrel
          by_cases hlt : k < 32
          · have hlt' : decide ((k : Int) < 32) = true := by simp; omega
            by_cases hbit : q / 2 ^ k % 2 = 1
            · have t1 : (Go.bits BinOp.and IntKind.u32 ((q : Int) / 2 ^ k) 1 == 1) = true := by rw [bit_of q k hbits, hbit]; rfl
              obtain ⟨fl, hf1, hf2, hf3⟩ := hrow.out
              have hj : (fr + k) / 8 < fl.length := by omega
              have hx : fl[(fr + k) / 8]? = some fl[(fr + k) / 8] := List.getElem?_eq_getElem hj
              obtain ⟨x, hxe⟩ : ∃ x, x = fl[(fr + k) / 8] := ⟨_, rfl⟩
              rw [← hxe] at hx
              have hf2' : wr.ownsRow s4 5 1 (.slice (some ⟨gb, 0, none⟩) (m + 4) c5) (m + 4) (u8s fl) := by unfold Own at hf2; rwa [hf1] at hf2
              obtain ⟨hc, hfz, hgb⟩ := Own.cell hf2' hx
              have H2 := hide hf2'
              have H3 := hide hf3
              have H4 := hide hx
              have H5 := hide hf1
              have x256 := x.toNat_lt
              have hrow' : Hid (∃ fl : List UInt8, fl.length = m + 4 ∧ Own (wr.setCell ⟨gb, (fr + k) / 8, none⟩ (.int .u8 ((UInt8.ofNat (x.toNat ^^^ 2 ^ ((fr + k) % 8))).toNat : Int))) s4 (.slice (some ⟨gb, 0, none⟩) (m + 4) c5) fl ∧ Crc.num (nums fl) = Crc.num (nums (frameB bs)) ^^^ (2 ^ fr * (q % 2 ^ (k + 1)))) := by
                refine ⟨fl.set ((fr + k) / 8) (UInt8.ofNat (x.toNat ^^^ 2 ^ ((fr + k) % 8))), by rw [List.length_set]; exact hf1, ?_, ?_⟩
                · unfold Own
                  rw [List.length_set, hf1]
                  exact Own.put hf2' _ _
                · rw [nums_turn fl _ _ x hx (by omega), hf3, turn_more _ fr q k _ _ (by omega) hbit]
              have hbel' : Hid (Below w.heap.size w (wr.setCell ⟨gb, (fr + k) / 8, none⟩ (.int .u8 ((UInt8.ofNat (x.toNat ^^^ 2 ^ ((fr + k) % 8))).toNat : Int)))) :=
                Below.setCell hbel.out (by show w.heap.size ≤ gb; omega) _
              have ey := turn_byte x ((fr + k) % 8) (by omega)
              obtain ⟨y, hy⟩ : ∃ y, y = UInt8.ofNat (x.toNat ^^^ 2 ^ ((fr + k) % 8)) := ⟨_, rfl⟩
              rw [← hy] at ey hrow' hbel'
              have x256 := x.toNat_lt
              have y256 := y.toNat_lt
              have Ey := hide ey
              clear hbit hf2 hf2' hf3 hx hxe hf1 hy ey hrow hbel
              go_wp2_with fail
              go_region
              rw [Ey.out]
              go_wp2_with fail
              exact ⟨⟨k + 1, by omega, by go_num, hrow', hbel'.out.drew⟩, by simp [intOf]; omega⟩
            · have t1 : (Go.bits BinOp.and IntKind.u32 ((q : Int) / 2 ^ k) 1 == 1) = false := by rw [bit_of q k hbits, show q / 2 ^ k % 2 = 0 by omega]; rfl
              have hrow' : Hid (∃ fl : List UInt8, fl.length = m + 4 ∧ Own wr s4 (.slice (some ⟨gb, 0, none⟩) (m + 4) c5) fl ∧ Crc.num (nums fl) = Crc.num (nums (frameB bs)) ^^^ (2 ^ fr * (q % 2 ^ (k + 1)))) := by
                obtain ⟨fl, h1, h2, h3⟩ := hrow.out
                exact ⟨fl, h1, h2, by rw [h3, Crc.mod_succ_xor, if_neg hbit]; simp⟩
              clear hbit
              go_wp2_with fail
              exact ⟨⟨k + 1, by omega, by go_num, hrow', hbel⟩, by simp [intOf]; omega⟩
          · have : k = 32 := by omega
            subst this
            obtain ⟨fl, hf1, hf2, hf3⟩ := hrow.out
            have ho : openB fl = none := open_turned bs fl fr q h0'.out hbits (by rw [hf1, hm'.out]) (by rw [hm'.out]; exact hfr) (by rw [hf3, Nat.mod_eq_of_lt (show q < 2 ^ 32 by omega)])
            obtain ⟨A6, c6, hv6, hB6, _, _⟩ := hf2.form
            rw [hf1] at hv6 hB6
            injection hv6 with e1 _ e2
            subst e1 e2
            have C := dec_any (some ⟨gb, 0, none⟩) (m + 4) c5 fl wr hB6 (by omega) hc5
            unfold DecPost at C
            rw [show decB fl = (0, [], 15) by unfold decB; rw [ho, if_neg (by omega)]] at C
            have CC := hide C
            clear hf1 hf2 hf3 ho hB6 C hrow
            go_wp2_with fail
            refine CC.out.mono ?_
            rintro e w6 ⟨v6, rfl, hoc6, hbel6⟩
            clear CC
            obtain ⟨A7, c7, rfl⟩ := hoc6.slice
            have hb6 : Hid (Below w.heap.size w (w6.alloc (.cells #[.int .u32 0, .slice A7 0 c7] 37))) := (below_both hbel.out hbel6 hbel.out.size).alloc ((below_both hbel.out hbel6 hbel.out.size).size) _
            have r7 : Row (w6.alloc (.cells #[.int .u32 0, .slice A7 0 c7] 37)) w6.heap.size 37 #[.int .u32 0, .slice A7 0 c7] := Row.new _ _ _
            have x1 := (r7.cell 1).trans (show _ = some (.slice A7 0 c7) from rfl)
            clear r7 hoc6 hbel6
            go_wp2_with fail
            go_ret
            exact ⟨rfl, hb6.out⟩
end Go.Proofs.Ytbfefjlilmoigaa
