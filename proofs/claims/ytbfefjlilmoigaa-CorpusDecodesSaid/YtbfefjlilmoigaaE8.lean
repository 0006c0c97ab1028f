/- Walks over the reference: bytes read as a corpus. -/
import Derived.Test.YtbfefjlilmoigaaE7
import Derived.Test.YtbfefjlilmoigaaT7
import Derived.Test.YtbfefjlilmoigaaL4
import Derived.Test.YtbfefjlilmoigaaF1
namespace Go.Proofs.Ytbfefjlilmoigaa
open Go.RowKit
set_option linter.unusedVariables false

theorem Own.rows {w w' : World} {base : Nat} {v : Value} {bs : List UInt8} (h : Own w base v bs) (hr : ∀ p t cs, Row w p t cs → t ≠ 66 → Row w' p t cs) : Own w' base v bs := by
  refine ⟨h.1, ?_⟩
  rcases h.2 with h2 | ⟨g, cap, cur, hv, hg, hh, r⟩
  · exact Or.inl h2
  · exact Or.inr ⟨g, cap, cur, hv, hg, hr g 5 cur hh (by decide), r⟩
theorem Own.far {w : World} {base : Nat} {v : Value} {bs : List UInt8} {p : Nat} {cs : Array Value} (h : Own w base v bs) (hp : Row w p 37 cs) (i : Nat) (u : Value) : Own (w.setCell ⟨p, i, none⟩ u) base v bs := by
  refine ⟨h.1, ?_⟩
  rcases h.2 with h2 | ⟨g, cap, cur, hv, hg, hh, r⟩
  · exact Or.inl h2
  · refine Or.inr ⟨g, cap, cur, hv, hg, Row.far (p := ⟨p, i, none⟩) (t := 5) (cs := cur) hh (fun e => ?_) u, r⟩
    have e : g = p := e
    subst e
    unfold Row at hp
    rw [hp] at hh
    injection hh with hh
    injection hh with _ h5 _
    exact absurd h5 (by decide)

theorem casesR_bound : ∀ (bs : List UInt8) (k at_ : Nat) (l : List Cas) (to : Int), at_ ≤ bs.length → casesR bs k at_ = .ok (l, to) → to ≤ bs.length
  | bs, 0, at_, l, to, ha, h => by
    simp only [casesR, Except.ok.injEq, Prod.mk.injEq] at h
    omega
  | bs, k + 1, at_, l, to, ha, h => by
    unfold casesR at h
    cases h1 : oneR bs at_ with
    | error z => rw [h1] at h; cases h
    | ok r =>
      obtain ⟨x, nx⟩ := r
      rw [h1] at h
      dsimp only at h
      obtain ⟨a1, rfl, b1, b2⟩ := oneR_bound h1
      cases h2 : casesR bs k a1 with
      | error z => rw [h2] at h; cases h
      | ok r =>
        obtain ⟨l', to'⟩ := r
        rw [h2] at h
        simp only [Except.ok.injEq, Prod.mk.injEq] at h
        obtain ⟨rfl, rfl⟩ := h
        exact casesR_bound bs k a1 l' _ b2 h2

theorem zeros37 {w0 w : World} (hr : Row w w0.heap.size 37 #[.int .u32 0, .slice none 0 0]) (hb : Below w0.heap.size w0 w) :
    Row ((w.setCell ⟨w0.heap.size, 0, none⟩ (.int .u32 0)).setCell ⟨w0.heap.size, 1, none⟩ (.slice none 0 0)) w0.heap.size 37 #[.int .u32 0, .slice none 0 0] ∧
    Below w0.heap.size w0 ((w.setCell ⟨w0.heap.size, 0, none⟩ (.int .u32 0)).setCell ⟨w0.heap.size, 1, none⟩ (.slice none 0 0)) :=
  ⟨(hr.put 0 _).put 1 _, (hb.setCell (p := ⟨w0.heap.size, 0, none⟩) (Nat.le_refl _) _).setCell (p := ⟨w0.heap.size, 1, none⟩) (Nat.le_refl _) _⟩

theorem Bytes.at4 {w : World} {A : Option Addr} {n : Nat} {bs : List UInt8} (h : Bytes w A n bs) (hn : 8 ≤ n) : ∃ b o y4 y5 y6 y7, A = some ⟨b, o, none⟩ ∧ w.cell? ⟨b, o + 4, none⟩ = some (.int .u8 ((y4 : Nat) : Int)) ∧ w.cell? ⟨b, o + 5, none⟩ = some (.int .u8 ((y5 : Nat) : Int)) ∧
    w.cell? ⟨b, o + 6, none⟩ = some (.int .u8 ((y6 : Nat) : Int)) ∧ w.cell? ⟨b, o + 7, none⟩ = some (.int .u8 ((y7 : Nat) : Int)) ∧ y4 < 256 ∧ y5 < 256 ∧ y6 < 256 ∧ y7 < 256 ∧ le4 (bs.drop 4) = y4 + 256 * y5 + 65536 * y6 + 16777216 * y7 := by
  obtain ⟨b, o, x4, rfl, e4, c4⟩ := h.at_ (k := 4) (by omega)
  obtain ⟨b5, o5, x5, a5, e5, c5⟩ := h.at_ (k := 5) (by omega)
  obtain ⟨b6, o6, x6, a6, e6, c6⟩ := h.at_ (k := 6) (by omega)
  obtain ⟨b7, o7, x7, a7, e7, c7⟩ := h.at_ (k := 7) (by omega)
  injection a5 with a5; injection a5 with p5 q5 _; subst p5 q5
  injection a6 with a6; injection a6 with p6 q6 _; subst p6 q6
  injection a7 with a7; injection a7 with p7 q7 _; subst p7 q7
  refine ⟨b, o, x4.toNat, x5.toNat, x6.toNat, x7.toNat, rfl, c4, c5, c6, c7, x4.toNat_lt, x5.toNat_lt, x6.toNat_lt, x7.toNat_lt, ?_⟩
  simp only [le4, List.getD_eq_getElem?_getD, List.getElem?_drop, Nat.reduceAdd, e4, e5, e6, e7, Option.getD_some]
  omega

theorem Own.bytes {w : World} {base : Nat} {A : Option Addr} {n c : Nat} {bs : List UInt8} (h : Own w base (.slice A n c) bs) : Bytes w A n bs := by
  obtain ⟨A', c', hv, hB, _⟩ := h.form
  injection hv with a b c
  subst a b c
  exact hB

set_option maxHeartbeats 1000000 in
set_option maxRecDepth 100000 in
theorem rdec_any (A : Option Addr) (n c : Nat) (bs : List UInt8) (w : World) (hb : Bytes w A n bs) (hn : n ≤ 100000000) (hnc : n ≤ c) :
    Calls Try.prog 45 #[.slice A n c] w (DecPost w bs) := by
  have H := hide (hb.below (below_alloc w (.cells #[.int .u32 0, .slice none 0 0] 37)))
  have hl := hide hb.len
  have R1 : Hid (Row (w.alloc (.cells #[.int .u32 0, .slice none 0 0] 37)) w.heap.size 37 #[.int .u32 0, .slice none 0 0]) := Row.new _ _ _
  have B1 := hide (below_alloc w (.cells #[.int .u32 0, .slice none 0 0] 37))
  clear hb
  by_cases h6 : n ≤ 60000
  · have h6' : decide (60000 < (n : Int)) = false := by simp; omega
    have hd : Hid (decB bs = match openB bs with
      | none => (0, [], 15)
      | some inner => match allR inner with
        | .error z => (0, [], z)
        | .ok (d, l) => (d, l, 0)) := by
      show _ = _
      unfold decB
      rw [if_neg (by have := hl.out; omega)]
      rfl
    have hlen : ∀ inner, openB bs = some inner → inner.length ≤ 60000 := by
      intro inner hi
      have h1 := congrArg List.length (open_some bs inner hi)
      rw [frameB_len] at h1
      have := hl.out
      omega
    have hlen := hide hlen
    clear hl h6
    go_enter Try.func45, Try.ntmps45
    go_wp2_with fail
    generalize w.alloc (.cells #[.int .u32 0, .slice none 0 0] 37) = w1 at *
    refine (ropen_any A n c bs w1 H.out hn hnc).mono ?_
    rintro e w2 ⟨v2, rfl, hown2, hbel2⟩
    have R2 := hide (R1.out.below hbel2 R1.out.lt)
    have B2 := hide (below_both B1.out hbel2 B1.out.size)
    cases ho : openB bs with
    | none =>
      have hres : Hid (decB bs = (0, [], 15)) := by show _ = _; rw [hd.out, ho]
      rw [ho] at hown2
      obtain ⟨A2, c2, rfl, _⟩ := hown2.form
      clear ho hown2 hbel2 hd hlen
      have d0 := (R2.out.cell 0).trans (show _ = some (.int .u32 0) from rfl)
      have d1 := (R2.out.cell 1).trans (show _ = some (.slice none 0 0) from rfl)
      have f0 := R2.out.frozen 0
      have f1 := R2.out.frozen 1
      go_wp2_with fail
      obtain ⟨q3, hb3⟩ := zeros37 R2.out B2.out
      clear d0 d1 f0 f1
      generalize (w2.setCell ⟨w.heap.size, 0, none⟩ (.int .u32 0)).setCell ⟨w.heap.size, 1, none⟩ (.slice none 0 0) = w9 at *
      have d0 := (q3.cell 0).trans (show _ = some (.int .u32 0) from rfl)
      have d1 := (q3.cell 1).trans (show _ = some (.slice none 0 0) from rfl)
      refine bodyPost_ret (v := .tuple #[.agg #[.int .u32 0, .slice none 0 0], .int .i64 15]) (by simp [results, Try.results45, go_sem, d0, d1]) rfl ?_
      refine ⟨.slice none 0 0, ?_, ?_, hb3⟩
      · rw [hres.out]; rfl
      · rw [hres.out]; exact OwnC.nil _ _
    | some inner =>
      have hi6 := hlen.out inner ho
      have hd2 : Hid (decB bs = match allR inner with
        | .error z => (0, [], z)
        | .ok (d, l) => (d, l, 0)) := by show _ = _; rw [hd.out, ho]
      rw [ho] at hown2
      dsimp only [Option.getD_some] at hown2
      obtain ⟨m, hm⟩ : ∃ m, m = inner.length := ⟨_, rfl⟩
      obtain ⟨A2, c2, hv2, hB2, hmc, hcm⟩ := hown2.form
      rw [← hm] at hv2 hB2 hmc hi6
      subst hv2
      have O2 := hide (hown2.mono B1.out.size)
      have hm' := hide hm.symm
      have hcm' : c2 ≤ 9223372036854775807 := by unfold maxLen at hcm; omega
      clear ho hown2 hbel2 hd hlen hcm
      by_cases h8 : m < 8
      · have h8' : decide ((m : Int) < 8) = true := by simp; omega
        have hres : Hid (decB bs = (0, [], 3)) := by show _ = _; rw [hd2.out]; unfold allR; rw [if_neg (by have := hm'.out; omega)]
        clear hd2 h8 hm
        have d0 := (R2.out.cell 0).trans (show _ = some (.int .u32 0) from rfl)
        have d1 := (R2.out.cell 1).trans (show _ = some (.slice none 0 0) from rfl)
        have f0 := R2.out.frozen 0
        have f1 := R2.out.frozen 1
        go_wp2_with fail
        obtain ⟨q3, hb3⟩ := zeros37 R2.out B2.out
        clear d0 d1 f0 f1
        generalize (w2.setCell ⟨w.heap.size, 0, none⟩ (.int .u32 0)).setCell ⟨w.heap.size, 1, none⟩ (.slice none 0 0) = w9 at *
        have d0 := (q3.cell 0).trans (show _ = some (.int .u32 0) from rfl)
        have d1 := (q3.cell 1).trans (show _ = some (.slice none 0 0) from rfl)
        refine bodyPost_ret (v := .tuple #[.agg #[.int .u32 0, .slice none 0 0], .int .i64 3]) (by simp [results, Try.results45, go_sem, d0, d1]) rfl ?_
        refine ⟨.slice none 0 0, ?_, ?_, hb3⟩
        · rw [hres.out]; rfl
        · rw [hres.out]; exact OwnC.nil _ _
      have h8' : decide ((m : Int) < 8) = false := by simp; omega
      have h4c : 4 ≤ c2 := by omega
      have hcv := (hB2.take 4 (by omega)).convert c2
      cases hmg : (inner.take 4 == [71, 82, 68, 49]) with
      | false =>
        have hres : Hid (decB bs = (0, [], 3)) := by show _ = _; rw [hd2.out]; unfold allR; rw [if_neg (by intro hh; rw [hh.2] at hmg; exact absurd hmg (by decide))]
        clear hd2 h8
        have d0 := (R2.out.cell 0).trans (show _ = some (.int .u32 0) from rfl)
        have d1 := (R2.out.cell 1).trans (show _ = some (.slice none 0 0) from rfl)
        have f0 := R2.out.frozen 0
        have f1 := R2.out.frozen 1
        have hB2' := hide hB2
        clear hB2 hm
        go_wp2_with fail
        obtain ⟨q3, hb3⟩ := zeros37 R2.out B2.out
        clear d0 d1 f0 f1
        generalize (w2.setCell ⟨w.heap.size, 0, none⟩ (.int .u32 0)).setCell ⟨w.heap.size, 1, none⟩ (.slice none 0 0) = w9 at *
        have d0 := (q3.cell 0).trans (show _ = some (.int .u32 0) from rfl)
        have d1 := (q3.cell 1).trans (show _ = some (.slice none 0 0) from rfl)
        refine bodyPost_ret (v := .tuple #[.agg #[.int .u32 0, .slice none 0 0], .int .i64 3]) (by simp [results, Try.results45, go_sem, d0, d1]) rfl ?_
        refine ⟨.slice none 0 0, ?_, ?_, hb3⟩
        · rw [hres.out]; rfl
        · rw [hres.out]; exact OwnC.nil _ _
      | true =>
        obtain ⟨b, o, y4, y5, y6, y7, rfl, e4, e5, e6, e7, l4, l5, l6, l7, hD⟩ := hB2.at4 (by omega)
        have hV : (y4 : Int) + 256 * (y5 : Int) + 65536 * (y6 : Int) + 16777216 * (y7 : Int) = ((le4 (inner.drop 4) : Nat) : Int) := by rw [hD]; omega
        have hall : Hid (allR inner = match numR inner 8 okM 5 with
          | .error z => .error z
          | .ok (k, a1) => match casesR inner k a1 with
            | .error z => .error z
            | .ok (l, to) => if to = inner.length then .ok (le4 (inner.drop 4), l) else .error 3) := by
          show _ = _
          unfold allR
          rw [if_pos ⟨by have := hm'.out; omega, by unfold magicB; simpa using hmg⟩]
          rfl
        have hD32 : y4 + 256 * y5 + 65536 * y6 + 16777216 * y7 < 4294967296 := by omega
        have hV' := hide hV
        have hB2' := hide hB2
        clear hD hV hm hB2
        have g4 : (4 : Int) < (m : Int) := by omega
        have g5 : (5 : Int) < (m : Int) := by omega
        have g6 : (6 : Int) < (m : Int) := by omega
        have g7 : (7 : Int) < (m : Int) := by omega
        have u4 : (w2.alloc (.cells #[.int .u32 0, .slice none 0 0] 37)).cell? ⟨b, o + 4, none⟩ = some (.int .u8 (y4 : Int)) := ((below_alloc w2 _).cell (cell_lt e4)).trans e4
        have u5 : (w2.alloc (.cells #[.int .u32 0, .slice none 0 0] 37)).cell? ⟨b, o + 5, none⟩ = some (.int .u8 (y5 : Int)) := ((below_alloc w2 _).cell (cell_lt e5)).trans e5
        have u6 : (w2.alloc (.cells #[.int .u32 0, .slice none 0 0] 37)).cell? ⟨b, o + 6, none⟩ = some (.int .u8 (y6 : Int)) := ((below_alloc w2 _).cell (cell_lt e6)).trans e6
        have u7 : (w2.alloc (.cells #[.int .u32 0, .slice none 0 0] 37)).cell? ⟨b, o + 7, none⟩ = some (.int .u8 (y7 : Int)) := ((below_alloc w2 _).cell (cell_lt e7)).trans e7
        go_wp2_with fail
        go_region
        rw [hV'.out]
        have R3 : Hid (Row (w2.alloc (.cells #[.int .u32 ((le4 (inner.drop 4) : Nat) : Int), .slice none 0 0] 37)).drew w.heap.size 37 #[.int .u32 0, .slice none 0 0]) := R2.out.alloc _
        have S3 : Hid (Row (w2.alloc (.cells #[.int .u32 ((le4 (inner.drop 4) : Nat) : Int), .slice none 0 0] 37)).drew w2.heap.size 37 #[.int .u32 ((le4 (inner.drop 4) : Nat) : Int), .slice none 0 0]) := Row.new _ _ _
        have O3 : Hid (Own (w2.alloc (.cells #[.int .u32 ((le4 (inner.drop 4) : Nat) : Int), .slice none 0 0] 37)).drew w.heap.size (.slice (some ⟨b, o, none⟩) m c2) inner) := O2.out.below (below_alloc _ _).drew
        have B3 : Hid (Below w.heap.size w (w2.alloc (.cells #[.int .u32 ((le4 (inner.drop 4) : Nat) : Int), .slice none 0 0] 37)).drew) := (B2.out.alloc B2.out.size _).drew
        have hp26 : w.heap.size < w2.heap.size := R2.out.lt
        clear u4 u5 u6 u7 e4 e5 e6 e7 hD32 hV' hcv g4 g5 g6 g7 l4 l5 l6 l7 hmg hB2' O2 R2 B2 h8'
        generalize le4 (inner.drop 4) = D at *
        generalize (w2.alloc (.cells #[.int .u32 (D : Int), .slice none 0 0] 37)).drew = w3 at *
        generalize w2.heap.size = p6 at *
        go_wp2_with fail
        have C1 := rget_any (some ⟨b, o, none⟩) m c2 inner 8 w3 O3.out.bytes (by omega) (by omega) (by omega)
        obtain ⟨x1, n1, e1, hg1⟩ : ∃ x n e, Code.getN inner 8 = (x, n, e) := ⟨_, _, _, rfl⟩
        rw [hg1] at C1
        unfold got at C1
        dsimp only at C1
        have hG1 := hide hg1
        clear hg1
        refine C1.mono ?_
        rintro e w4 ⟨rfl, rfl⟩
        clear C1
        by_cases he1 : e1 = 0
        · have t1 : ((e1 : Int) != 0) = false := by simp [he1]
          obtain ⟨b1', b2', b3', b4'⟩ := getN_bound inner 8 x1 n1 (by rw [hG1.out, he1])
          obtain ⟨a1, rfl⟩ := Int.eq_ofNat_of_zero_le (show (0 : Int) ≤ n1 by omega)
          have hln := hm'.out
          have ha1 : a1 ≤ m := by omega
          by_cases hk2 : 2000 < x1
          · have t2 : decide (2000 < (x1 : Int)) = true := by simp; omega
            have hres : Hid (decB bs = (0, [], 5)) := by
              show _ = _
              rw [hd2.out, hall.out]
              unfold numR
              rw [hG1.out]
              dsimp only
              rw [if_neg (by simp [he1]), if_neg (by simp [okM]; omega)]
            clear b1' b2' b3' b4' hk2 he1 hG1 hall hd2 hln
            have d0 := (R3.out.cell 0).trans (show _ = some (.int .u32 0) from rfl)
            have d1 := (R3.out.cell 1).trans (show _ = some (.slice none 0 0) from rfl)
            have f0 := R3.out.frozen 0
            have f1 := R3.out.frozen 1
            go_wp2_with fail
            obtain ⟨q3, hb3⟩ := zeros37 R3.out B3.out
            clear d0 d1 f0 f1
            generalize (w3.setCell ⟨w.heap.size, 0, none⟩ (.int .u32 0)).setCell ⟨w.heap.size, 1, none⟩ (.slice none 0 0) = w9 at *
            have d0 := (q3.cell 0).trans (show _ = some (.int .u32 0) from rfl)
            have d1 := (q3.cell 1).trans (show _ = some (.slice none 0 0) from rfl)
            refine bodyPost_ret (v := .tuple #[.agg #[.int .u32 0, .slice none 0 0], .int .i64 5]) (by simp [results, Try.results45, go_sem, d0, d1]) rfl ?_
            refine ⟨.slice none 0 0, ?_, ?_, hb3⟩
            · rw [hres.out]; rfl
            · rw [hres.out]; exact OwnC.nil _ _
          have t2 : decide (2000 < (x1 : Int)) = false := by simp; omega
          have hall2 : Hid (allR inner = match casesR inner x1 a1 with
            | .error z => .error z
            | .ok (l, to) => if to = inner.length then .ok (D, l) else .error 3) := by
            show _ = _
            rw [hall.out]
            unfold numR
            rw [hG1.out]
            dsimp only
            rw [if_neg (by simp [he1]), if_pos (by simp [okM]; omega)]
          have hx20 : x1 ≤ 2000 := by omega
          clear b1' b2' b3' b4' hk2 he1 hG1 hall hln
          go_wp2_with fail
          go_loopw [8, 10] (fun at' i wr => ∃ (j : Nat) (acc : List Cas) (A' : Option Addr) (c' : Nat) (at_ : Nat), j ≤ x1 ∧ i = .int .i64 j ∧ at' = .int .i64 at_ ∧ acc.length = j ∧ at_ ≤ m ∧ Hid (Row wr p6 37 #[.int .u32 (D : Int), .slice A' j c']) ∧ Hid (OwnC wr w.heap.size (.slice A' j c') acc) ∧
            Hid (Own wr w.heap.size (.slice (some ⟨b, o, none⟩) m c2) inner) ∧ Hid (Row wr w.heap.size 37 #[.int .u32 0, .slice none 0 0]) ∧ Hid (Below w.heap.size w wr) ∧ Hid (joinC acc (casesR inner (x1 - j) at_) = casesR inner x1 a1)) (fun _ i _ => x1 - (intOf i).toNat)
          case atStart =>
            refine ⟨0, [], none, 0, a1, by omega, rfl, rfl, rfl, ha1, S3, OwnC.nil _ _, O3, R3, B3, ?_⟩
            show joinC [] (casesR inner x1 a1) = casesR inner x1 a1
            unfold joinC
            cases casesR inner x1 a1 <;> rfl
          case round =>
            obtain ⟨j, acc, A', c', at_, hj, rfl, rfl, hacc, hat, hrw, hoc, hO, hR, hB, hjn⟩ := hrel
            by_cases hlt : j < x1
            · have hlt' : decide ((j : Int) < (x1 : Int)) = true := by simp; omega
              have C3 := rone_any (some ⟨b, o, none⟩) m c2 inner at_ wr hO.out.bytes (by omega) hat
              unfold ROnePost at C3
              cases hx : oneR inner (at_ : Int) with
              | error z =>
                have hz := oneR_err hx
                have hres : Hid (decB bs = (0, [], z)) := by
                  show _ = _
                  have h1 := hjn.out
                  rw [show x1 - j = (x1 - j - 1) + 1 by omega, casesR, hx] at h1
                  rw [hd2.out, hall2.out, ← h1]
                  rfl
                rw [hx] at C3
                have t3 : ((z : Int) != 0) = true := by simp; omega
                clear hx hz hd2 hall2 hjn
                go_wp2_with fail
                refine C3.mono ?_
                rintro e w5 ⟨hbel5, rfl⟩
                have R5 := hide ((hR.out.below hbel5 hR.out.lt).alloc (.cells #[.int .i64 0, .int .i64 0, .slice none 0 0] 66))
                have B5 : Hid (Below w.heap.size w (w5.alloc (.cells #[.int .i64 0, .int .i64 0, .slice none 0 0] 66))) := (below_both hB.out hbel5 hB.out.size).alloc (below_both hB.out hbel5 hB.out.size).size _
                clear C3 hbel5
                have d0 := (R5.out.cell 0).trans (show _ = some (.int .u32 0) from rfl)
                have d1 := (R5.out.cell 1).trans (show _ = some (.slice none 0 0) from rfl)
                have f0 := R5.out.frozen 0
                have f1 := R5.out.frozen 1
                go_wp2_with fail
                generalize w5.alloc (.cells #[.int .i64 0, .int .i64 0, .slice none 0 0] 66) = w6 at *
                obtain ⟨q3, hb3⟩ := zeros37 R5.out B5.out
                clear d0 d1 f0 f1
                generalize (w6.setCell ⟨w.heap.size, 0, none⟩ (.int .u32 0)).setCell ⟨w.heap.size, 1, none⟩ (.slice none 0 0) = w9 at *
                have d0 := (q3.cell 0).trans (show _ = some (.int .u32 0) from rfl)
                have d1 := (q3.cell 1).trans (show _ = some (.slice none 0 0) from rfl)
                refine bodyPost_ret (v := .tuple #[.agg #[.int .u32 0, .slice none 0 0], .int .i64 (z : Int)]) (by simp [results, Try.results45, go_sem, d0, d1]) rfl ?_
                refine ⟨.slice none 0 0, ?_, ?_, hb3⟩
                · rw [hres.out]; rfl
                · rw [hres.out]; exact OwnC.nil _ _
              | ok r =>
                obtain ⟨x, nx⟩ := r
                obtain ⟨k, rfl, hk1, hk2⟩ := oneR_bound hx
                have hkm : k ≤ m := by have := hm'.out; omega
                have hj8 : Hid (joinC (acc ++ [x]) (casesR inner (x1 - (j + 1)) (k : Int)) = casesR inner x1 a1) := by
                  show _ = _
                  have h1 := hjn.out
                  rw [show x1 - j = (x1 - (j + 1)) + 1 by omega, casesR, hx] at h1
                  dsimp only at h1
                  rw [← h1]
                  cases casesR inner (x1 - (j + 1)) (k : Int) with
                  | error z => rfl
                  | ok r => obtain ⟨l, to⟩ := r; simp [joinC]
                rw [hx] at C3
                clear hx hk1 hk2 hjn hd2 hall2
                go_wp2_with fail
                refine C3.mono ?_
                rintro e w5 ⟨hbel5, A5, c5, rfl, hwt5⟩
                clear C3
                have hB5 := below_both hB.out hbel5 hB.out.size
                have r11 : Row (w5.alloc (.cells #[.int .i64 x.kind, .int .i64 x.note, .slice A5 x.word.length c5] 66)) w5.heap.size 66 #[.int .i64 x.kind, .int .i64 x.note, .slice A5 x.word.length c5] := Row.new _ _ _
                have r12 : Row ((w5.alloc (.cells #[.int .i64 x.kind, .int .i64 x.note, .slice A5 x.word.length c5] 66)).alloc (.cells #[.int .i64 x.kind, .int .i64 x.note, .slice A5 x.word.length c5] 66)) (w5.heap.size + 1) 66 #[.int .i64 x.kind, .int .i64 x.note, .slice A5 x.word.length c5] := by
                  have := Row.new (w5.alloc (.cells #[.int .i64 x.kind, .int .i64 x.note, .slice A5 x.word.length c5] 66)) 66 #[.int .i64 x.kind, .int .i64 x.note, .slice A5 x.word.length c5]
                  simpa using this
                have hb57 : Below w5.heap.size w5 ((w5.alloc (.cells #[.int .i64 x.kind, .int .i64 x.note, .slice A5 x.word.length c5] 66)).alloc (.cells #[.int .i64 x.kind, .int .i64 x.note, .slice A5 x.word.length c5] 66)) := ((Below.refl _ _).alloc (Nat.le_refl _) _).alloc (by simp) _
                have hwt7 := hwt5.below hb57
                have hoc7 : OwnC ((w5.alloc (.cells #[.int .i64 x.kind, .int .i64 x.note, .slice A5 x.word.length c5] 66)).alloc (.cells #[.int .i64 x.kind, .int .i64 x.note, .slice A5 x.word.length c5] 66)) w.heap.size (.slice A' j c') acc := (hoc.out.below hbel5).below hb57
                have hO7 := (hO.out.below hbel5).below hb57
                have hR7 := (hR.out.below hbel5 hR.out.lt).below hb57 (hR.out.below hbel5 hR.out.lt).lt
                have hS7 := (hrw.out.below hbel5 hrw.out.lt).below hb57 (hrw.out.below hbel5 hrw.out.lt).lt
                have hB7 : Below w.heap.size w ((w5.alloc (.cells #[.int .i64 x.kind, .int .i64 x.note, .slice A5 x.word.length c5] 66)).alloc (.cells #[.int .i64 x.kind, .int .i64 x.note, .slice A5 x.word.length c5] 66)) := below_both hB5 hb57 hB5.size
                have s1 := (((hrw.out.below hbel5 hrw.out.lt).alloc (.cells #[.int .i64 x.kind, .int .i64 x.note, .slice A5 x.word.length c5] 66)).cell 1).trans (show _ = some (.slice A' j c') from rfl)
                have x0 := (r11.cell 0).trans (show _ = some (.int .i64 x.kind) from rfl)
                have x1' := (r11.cell 1).trans (show _ = some (.int .i64 x.note) from rfl)
                have x2 := (r11.cell 2).trans (show _ = some (.slice A5 x.word.length c5) from rfl)
                have hsz7 : w.heap.size ≤ ((w5.alloc (.cells #[.int .i64 x.kind, .int .i64 x.note, .slice A5 x.word.length c5] 66)).alloc (.cells #[.int .i64 x.kind, .int .i64 x.note, .slice A5 x.word.length c5] 66)).heap.size := by have := hB5.size; simp; omega
                clear r11 hbel5 hwt5 hB5 hb57 hrw hoc hO hR hB
                go_wp2_with (at_builtin; refine appC w.heap.size hoc7 (x := x) (A' := A5) (c' := c5) r12 hwt7 (by omega) hsz7 rfl _ _ rfl rfl rfl ?_)
                intro A9 c9 w9 hoc9 hbel9 hrow9
                have hS9 := hrow9 _ _ _ hS7 (by decide)
                have hR9 := hrow9 _ _ _ hR7 (by decide)
                have hO9 := hO7.rows hrow9
                have hB9 := hB7.trans hbel9
                have s1 := (hS9.cell 1).trans (show _ = some (.slice A' j c') from rfl)
                have fs1 := hS9.frozen 1
                have S10 : Hid (Row (w9.setCell ⟨p6, 1, none⟩ (.slice A9 (j + 1) c9)) p6 37 #[.int .u32 (D : Int), (.slice A9 (j + 1) c9)]) := hS9.put 1 _
                have R10 : Hid (Row (w9.setCell ⟨p6, 1, none⟩ (.slice A9 (j + 1) c9)) w.heap.size 37 #[.int .u32 0, .slice none 0 0]) := hR9.far (p := ⟨p6, 1, none⟩) (by show w.heap.size ≠ p6; omega) _
                have O10 := hide (hO9.far hS9 1 (.slice A9 (j + 1) c9))
                have C10 := hide (hoc9.put hS9 (by decide) (by decide) 1 (.slice A9 (j + 1) c9))
                have B10 : Hid (Below w.heap.size w (w9.setCell ⟨p6, 1, none⟩ (.slice A9 (j + 1) c9))) := hB9.setCell (p := ⟨p6, 1, none⟩) (by show w.heap.size ≤ p6; omega) _
                clear hS7 hR7 hO7 hB7 hS9 hR9 hO9 hB9 hoc9 hbel9 hrow9 hoc7 hwt7 r12 x0 x1' x2 hsz7
                go_wp2_with fail
                exact ⟨⟨j + 1, acc ++ [x], A9, c9, k, by omega, by go_num, rfl, by simp [hacc], hkm, S10, C10, O10, R10, B10, hj8⟩, by simp [intOf]; omega⟩
            · have hlt' : decide ((j : Int) < (x1 : Int)) = false := by simp; omega
              have hjk : j = x1 := by omega
              have hall3 : Hid (allR inner = if (at_ : Int) = inner.length then .ok (D, acc) else .error 3) := by
                show _ = _
                have h1 := hjn.out
                rw [hjk, Nat.sub_self, casesR] at h1
                rw [hall2.out, ← h1]
                simp [joinC]
              have hln := hm'.out
              by_cases hlt2 : at_ < m
              · have t3 : decide ((at_ : Int) < (m : Int)) = true := by simp; omega
                have hres : Hid (decB bs = (0, [], 3)) := by
                  show _ = _
                  rw [hd2.out, hall3.out, if_neg (by omega)]
                clear hd2 hall2 hall3 hjn hln hjk
                have d0 := (hR.out.cell 0).trans (show _ = some (.int .u32 0) from rfl)
                have d1 := (hR.out.cell 1).trans (show _ = some (.slice none 0 0) from rfl)
                have f0 := hR.out.frozen 0
                have f1 := hR.out.frozen 1
                go_wp2_with fail
                obtain ⟨q3, hb3⟩ := zeros37 hR.out hB.out
                clear d0 d1 f0 f1
                generalize (wr.setCell ⟨w.heap.size, 0, none⟩ (.int .u32 0)).setCell ⟨w.heap.size, 1, none⟩ (.slice none 0 0) = w9 at *
                have d0 := (q3.cell 0).trans (show _ = some (.int .u32 0) from rfl)
                have d1 := (q3.cell 1).trans (show _ = some (.slice none 0 0) from rfl)
                refine bodyPost_ret (v := .tuple #[.agg #[.int .u32 0, .slice none 0 0], .int .i64 3]) (by simp [results, Try.results45, go_sem, d0, d1]) rfl ?_
                refine ⟨.slice none 0 0, ?_, ?_, hb3⟩
                · rw [hres.out]; rfl
                · rw [hres.out]; exact OwnC.nil _ _
              · have t3 : decide ((at_ : Int) < (m : Int)) = false := by simp; omega
                have hres : Hid (decB bs = (D, acc, 0)) := by
                  show _ = _
                  rw [hd2.out, hall3.out, if_pos (by omega)]
                clear hd2 hall2 hall3 hjn hln hjk
                have d0 := (hR.out.cell 0).trans (show _ = some (.int .u32 0) from rfl)
                have d1 := (hR.out.cell 1).trans (show _ = some (.slice none 0 0) from rfl)
                have f0 := hR.out.frozen 0
                have f1 := hR.out.frozen 1
                have s0 := (hrw.out.cell 0).trans (show _ = some (.int .u32 (D : Int)) from rfl)
                have s1 := (hrw.out.cell 1).trans (show _ = some (.slice A' j c') from rfl)
                have q3 : Row ((wr.setCell ⟨w.heap.size, 0, none⟩ (.int .u32 (D : Int))).setCell ⟨w.heap.size, 1, none⟩ (.slice A' j c')) w.heap.size 37 #[.int .u32 (D : Int), .slice A' j c'] := (hR.out.put 0 _).put 1 _
                have hb3 : Below w.heap.size w ((wr.setCell ⟨w.heap.size, 0, none⟩ (.int .u32 (D : Int))).setCell ⟨w.heap.size, 1, none⟩ (.slice A' j c')) := (hB.out.setCell (p := ⟨w.heap.size, 0, none⟩) (Nat.le_refl _) _).setCell (p := ⟨w.heap.size, 1, none⟩) (Nat.le_refl _) _
                have o3 : OwnC ((wr.setCell ⟨w.heap.size, 0, none⟩ (.int .u32 (D : Int))).setCell ⟨w.heap.size, 1, none⟩ (.slice A' j c')) w.heap.size (.slice A' j c') acc := (hoc.out.put hR.out (by decide) (by decide) 0 _).put (hR.out.put 0 _) (by decide) (by decide) 1 _
                go_wp2_with fail
                clear d0 d1 f0 f1 s0 s1
                generalize (wr.setCell ⟨w.heap.size, 0, none⟩ (.int .u32 (D : Int))).setCell ⟨w.heap.size, 1, none⟩ (.slice A' j c') = w9 at *
                have d0 := (q3.cell 0).trans (show _ = some (.int .u32 (D : Int)) from rfl)
                have d1 := (q3.cell 1).trans (show _ = some (.slice A' j c') from rfl)
                refine bodyPost_ret (v := .tuple #[.agg #[.int .u32 (D : Int), .slice A' j c'], .int .i64 0]) (by simp [results, Try.results45, go_sem, d0, d1]) rfl ?_
                refine ⟨.slice A' j c', ?_, ?_, hb3⟩
                · rw [hres.out]; rfl
                · rw [hres.out]; exact o3
        · have t1 : ((e1 : Int) != 0) = true := by simp; omega
          have hres : Hid (decB bs = (0, [], e1)) := by
            show _ = _
            rw [hd2.out, hall.out]
            unfold numR
            rw [hG1.out]
            dsimp only
            rw [if_pos (by simp; omega)]
          clear he1 hG1 hall hd2
          have d0 := (R3.out.cell 0).trans (show _ = some (.int .u32 0) from rfl)
          have d1 := (R3.out.cell 1).trans (show _ = some (.slice none 0 0) from rfl)
          have f0 := R3.out.frozen 0
          have f1 := R3.out.frozen 1
          go_wp2_with fail
          obtain ⟨q3, hb3⟩ := zeros37 R3.out B3.out
          clear d0 d1 f0 f1
          generalize (w3.setCell ⟨w.heap.size, 0, none⟩ (.int .u32 0)).setCell ⟨w.heap.size, 1, none⟩ (.slice none 0 0) = w9 at *
          have d0 := (q3.cell 0).trans (show _ = some (.int .u32 0) from rfl)
          have d1 := (q3.cell 1).trans (show _ = some (.slice none 0 0) from rfl)
          refine bodyPost_ret (v := .tuple #[.agg #[.int .u32 0, .slice none 0 0], .int .i64 (e1 : Int)]) (by simp [results, Try.results45, go_sem, d0, d1]) rfl ?_
          refine ⟨.slice none 0 0, ?_, ?_, hb3⟩
          · rw [hres.out]; rfl
          · rw [hres.out]; exact OwnC.nil _ _
  · have h6' : decide (60000 < (n : Int)) = true := by simp; omega
    have hres : Hid (decB bs = (0, [], 5)) := by
      show _ = _
      unfold decB
      rw [if_pos (by have := hl.out; omega)]
    clear hl h6
    go_enter Try.func45, Try.ntmps45
    go_wp2_with fail
    have d0 := (R1.out.cell 0).trans (show _ = some (.int .u32 0) from rfl)
    have d1 := (R1.out.cell 1).trans (show _ = some (.slice none 0 0) from rfl)
    have f0 := R1.out.frozen 0
    have f1 := R1.out.frozen 1
    refine bodyPost_ret (v := .tuple #[.agg #[.int .u32 0, .slice none 0 0], .int .i64 5]) (by simp [results, Try.results45, go_sem, d0, d1]) rfl ?_
    refine ⟨.slice none 0 0, ?_, ?_, B1.out⟩
    · rw [hres.out]; rfl
    · rw [hres.out]; exact OwnC.nil _ _
end Go.Proofs.Ytbfefjlilmoigaa
