/- Walks over the reference: one case read. -/
import Derived.Test.YtbfefjlilmoigaaE6
namespace Go.Proofs.Ytbfefjlilmoigaa
open Go.RowKit
set_option linter.unusedVariables false

def ROnePost (w : World) (r : Except Nat (Cas × Int)) (e : Ending) (w' : World) : Prop :=
  Below w.heap.size w w' ∧ match r with
    | .error z => e = .returned (.tuple #[.agg #[.int .i64 0, .int .i64 0, .slice none 0 0], .int .i64 0, .int .i64 (z : Int)])
    | .ok (x, nx) => ∃ A' c', e = .returned (.tuple #[.agg #[.int .i64 x.kind, .int .i64 x.note, .slice A' x.word.length c'], .int .i64 nx, .int .i64 0]) ∧ WordT w' A' c' x.word

set_option maxHeartbeats 1000000 in
set_option maxRecDepth 100000 in
theorem rone_any (A : Option Addr) (n c : Nat) (bs : List UInt8) (at_ : Nat) (w : World) (hb : Bytes w A n bs) (hn : n ≤ 1000000) (hat : at_ ≤ n) :
    Calls Try.prog 61 #[.slice A n c, .int .i64 (at_ : Int)] w (ROnePost w (oneR bs at_)) := by
  have H := hide (hb.below (below_alloc w (.cells #[.int .i64 0, .int .i64 0, .slice none 0 0] 66)))
  have hl := hide hb.len
  have r1 : Hid (Row (w.alloc (.cells #[.int .i64 0, .int .i64 0, .slice none 0 0] 66)) w.heap.size 66 #[.int .i64 0, .int .i64 0, .slice none 0 0]) := Row.new _ _ _
  have b1 := hide (below_alloc w (.cells #[.int .i64 0, .int .i64 0, .slice none 0 0] 66))
  clear hb
  go_enter Try.func61, Try.ntmps61
  go_wp2_with fail
  generalize w.alloc (.cells #[.int .i64 0, .int .i64 0, .slice none 0 0] 66) = w1 at *
  have d0 := (r1.out.cell 0).trans (show _ = some (.int .i64 0) from rfl)
  have d1 := (r1.out.cell 1).trans (show _ = some (.int .i64 0) from rfl)
  have d2 := (r1.out.cell 2).trans (show _ = some (.slice none 0 0) from rfl)
  have f0 := r1.out.frozen 0
  have f1 := r1.out.frozen 1
  have f2 := r1.out.frozen 2
  have C1 := rget_any A n c bs (at_ : Int) w1 H.out (by omega) (by omega) (by omega)
  have hone : Hid (oneR bs at_ = oneR bs at_) := rfl
  obtain ⟨x1, n1, e1, hg1⟩ : ∃ x n e, Code.getN bs (at_ : Int) = (x, n, e) := ⟨_, _, _, rfl⟩
  rw [hg1] at C1
  unfold got at C1
  dsimp only at C1
  have hG1 := hide hg1
  clear hg1
  refine C1.mono ?_
  rintro e w2 ⟨rfl, rfl⟩
  clear C1
  by_cases he1 : e1 = 0
  · have t1 : ((e1 : Int) != 0) = false := by simp [he1]
    obtain ⟨b1', b2', b3', b4'⟩ := getN_bound bs (at_ : Int) x1 n1 (by rw [hG1.out, he1])
    obtain ⟨a1, rfl⟩ := Int.eq_ofNat_of_zero_le (show (0 : Int) ≤ n1 by omega)
    have hln := hl.out
    have ha1 : a1 ≤ n := by omega
    by_cases hk1 : x1 < 1
    · have t2 : decide ((x1 : Int) < 1) = true := by simp; omega
      have hres : Hid (oneR bs at_ = .error 3) := by
        show _ = _
        unfold oneR numR
        rw [hG1.out]
        dsimp only
        rw [if_neg (by simp [he1]), if_neg (by simp [okK]; omega)]
      clear b1' b2' b3' b4' hk1 he1 hG1
      go_wp2_with fail
      have q3 : Row (((w1.setCell ⟨w.heap.size, 0, none⟩ (.int .i64 0)).setCell ⟨w.heap.size, 1, none⟩ (.int .i64 0)).setCell ⟨w.heap.size, 2, none⟩ (.slice none 0 0)) w.heap.size 66 #[.int .i64 0, .int .i64 0, .slice none 0 0] := ((r1.out.put 0 _).put 1 _).put 2 _
      have hb3 : Below w.heap.size w (((w1.setCell ⟨w.heap.size, 0, none⟩ (.int .i64 0)).setCell ⟨w.heap.size, 1, none⟩ (.int .i64 0)).setCell ⟨w.heap.size, 2, none⟩ (.slice none 0 0)) := ((b1.out.setCell (p := ⟨w.heap.size, 0, none⟩) (Nat.le_refl _) _).setCell (p := ⟨w.heap.size, 1, none⟩) (Nat.le_refl _) _).setCell (p := ⟨w.heap.size, 2, none⟩) (Nat.le_refl _) _
      clear d0 d1 d2 f0 f1 f2
      generalize ((w1.setCell ⟨w.heap.size, 0, none⟩ (.int .i64 0)).setCell ⟨w.heap.size, 1, none⟩ (.int .i64 0)).setCell ⟨w.heap.size, 2, none⟩ (.slice none 0 0) = w9 at *
      have d0 := (q3.cell 0).trans (show _ = some (.int .i64 0) from rfl)
      have d1 := (q3.cell 1).trans (show _ = some (.int .i64 0) from rfl)
      have d2 := (q3.cell 2).trans (show _ = some (.slice none 0 0) from rfl)
      refine bodyPost_ret (v := .tuple #[.agg #[.int .i64 0, .int .i64 0, .slice none 0 0], .int .i64 0, .int .i64 3]) (by simp [results, Try.results61, go_sem, d0, d1, d2]) rfl ?_
      rw [hres.out]
      exact ⟨hb3, rfl⟩
    by_cases hk4 : 4 < x1
    · have t2 : decide ((x1 : Int) < 1) = false := by simp; omega
      have t3 : decide (4 < (x1 : Int)) = true := by simp; omega
      have hres : Hid (oneR bs at_ = .error 3) := by
        show _ = _
        unfold oneR numR
        rw [hG1.out]
        dsimp only
        rw [if_neg (by simp [he1]), if_neg (by simp [okK]; omega)]
      clear b1' b2' b3' b4' hk1 hk4 he1 hG1
      go_wp2_with fail
      have q3 : Row (((w1.setCell ⟨w.heap.size, 0, none⟩ (.int .i64 0)).setCell ⟨w.heap.size, 1, none⟩ (.int .i64 0)).setCell ⟨w.heap.size, 2, none⟩ (.slice none 0 0)) w.heap.size 66 #[.int .i64 0, .int .i64 0, .slice none 0 0] := ((r1.out.put 0 _).put 1 _).put 2 _
      have hb3 : Below w.heap.size w (((w1.setCell ⟨w.heap.size, 0, none⟩ (.int .i64 0)).setCell ⟨w.heap.size, 1, none⟩ (.int .i64 0)).setCell ⟨w.heap.size, 2, none⟩ (.slice none 0 0)) := ((b1.out.setCell (p := ⟨w.heap.size, 0, none⟩) (Nat.le_refl _) _).setCell (p := ⟨w.heap.size, 1, none⟩) (Nat.le_refl _) _).setCell (p := ⟨w.heap.size, 2, none⟩) (Nat.le_refl _) _
      clear d0 d1 d2 f0 f1 f2
      generalize ((w1.setCell ⟨w.heap.size, 0, none⟩ (.int .i64 0)).setCell ⟨w.heap.size, 1, none⟩ (.int .i64 0)).setCell ⟨w.heap.size, 2, none⟩ (.slice none 0 0) = w9 at *
      have d0 := (q3.cell 0).trans (show _ = some (.int .i64 0) from rfl)
      have d1 := (q3.cell 1).trans (show _ = some (.int .i64 0) from rfl)
      have d2 := (q3.cell 2).trans (show _ = some (.slice none 0 0) from rfl)
      refine bodyPost_ret (v := .tuple #[.agg #[.int .i64 0, .int .i64 0, .slice none 0 0], .int .i64 0, .int .i64 3]) (by simp [results, Try.results61, go_sem, d0, d1, d2]) rfl ?_
      rw [hres.out]
      exact ⟨hb3, rfl⟩
    have t2 : decide ((x1 : Int) < 1) = false := by simp; omega
    have t3 : decide (4 < (x1 : Int)) = false := by simp; omega
    have hn1 : Hid (numR bs at_ okK 3 = .ok (x1, (a1 : Int))) := by
      show _ = _
      unfold numR
      rw [hG1.out]
      dsimp only
      rw [if_neg (by simp [he1]), if_pos (by simp [okK]; omega)]
    have C2 := rget_any A n c bs (a1 : Int) w1 H.out (by omega) (by omega) (by omega)
    obtain ⟨x2, n2, e2, hg2⟩ : ∃ x n e, Code.getN bs (a1 : Int) = (x, n, e) := ⟨_, _, _, rfl⟩
    rw [hg2] at C2
    unfold got at C2
    dsimp only at C2
    have hG2 := hide hg2
    clear hg2 b1' b2' hk1 hk4 he1 hG1
    go_wp2_with fail
    refine C2.mono ?_
    rintro e w2 ⟨rfl, rfl⟩
    clear C2
    by_cases he2 : e2 = 0
    · have t4 : ((e2 : Int) != 0) = false := by simp [he2]
      obtain ⟨b1', b2', b3', b4''⟩ := getN_bound bs (a1 : Int) x2 n2 (by rw [hG2.out, he2])
      obtain ⟨a2, rfl⟩ := Int.eq_ofNat_of_zero_le (show (0 : Int) ≤ n2 by omega)
      have ha2 : a2 ≤ n := by omega
      by_cases hk2 : 2147483648 ≤ x2
      · have t5 : decide (2147483648 ≤ (x2 : Int)) = true := by simp; omega
        have hres : Hid (oneR bs at_ = .error 3) := by
          show _ = _
          unfold oneR
          rw [hn1.out]
          dsimp only
          unfold numR
          rw [hG2.out]
          dsimp only
          rw [if_neg (by simp [he2]), if_neg (by simp [okI]; omega)]
        clear b1' b2' b3' hk2 he2 hG2
        go_wp2_with fail
        have q3 : Row (((w1.setCell ⟨w.heap.size, 0, none⟩ (.int .i64 0)).setCell ⟨w.heap.size, 1, none⟩ (.int .i64 0)).setCell ⟨w.heap.size, 2, none⟩ (.slice none 0 0)) w.heap.size 66 #[.int .i64 0, .int .i64 0, .slice none 0 0] := ((r1.out.put 0 _).put 1 _).put 2 _
        have hb3 : Below w.heap.size w (((w1.setCell ⟨w.heap.size, 0, none⟩ (.int .i64 0)).setCell ⟨w.heap.size, 1, none⟩ (.int .i64 0)).setCell ⟨w.heap.size, 2, none⟩ (.slice none 0 0)) := ((b1.out.setCell (p := ⟨w.heap.size, 0, none⟩) (Nat.le_refl _) _).setCell (p := ⟨w.heap.size, 1, none⟩) (Nat.le_refl _) _).setCell (p := ⟨w.heap.size, 2, none⟩) (Nat.le_refl _) _
        clear d0 d1 d2 f0 f1 f2
        generalize ((w1.setCell ⟨w.heap.size, 0, none⟩ (.int .i64 0)).setCell ⟨w.heap.size, 1, none⟩ (.int .i64 0)).setCell ⟨w.heap.size, 2, none⟩ (.slice none 0 0) = w9 at *
        have d0 := (q3.cell 0).trans (show _ = some (.int .i64 0) from rfl)
        have d1 := (q3.cell 1).trans (show _ = some (.int .i64 0) from rfl)
        have d2 := (q3.cell 2).trans (show _ = some (.slice none 0 0) from rfl)
        refine bodyPost_ret (v := .tuple #[.agg #[.int .i64 0, .int .i64 0, .slice none 0 0], .int .i64 0, .int .i64 3]) (by simp [results, Try.results61, go_sem, d0, d1, d2]) rfl ?_
        rw [hres.out]
        exact ⟨hb3, rfl⟩
      have t5 : decide (2147483648 ≤ (x2 : Int)) = false := by simp; omega
      have hn2 : Hid (numR bs a1 okI 3 = .ok (x2, (a2 : Int))) := by
        show _ = _
        unfold numR
        rw [hG2.out]
        dsimp only
        rw [if_neg (by simp [he2]), if_pos (by simp [okI]; omega)]
      have C3 := rgetl_any A n c bs (a2 : Int) 300 w1 H.out (by omega) (by omega) (by omega)
      unfold GotPost at C3
      obtain ⟨l, to, e3, hg3⟩ : ∃ x n e, getList bs (a2 : Int) 300 = (x, n, e) := ⟨_, _, _, rfl⟩
      rw [hg3] at C3
      dsimp only at C3
      have hG3 := hide hg3
      clear hg3 b1' b2' b3' he2 hG2
      go_wp2_with fail
      refine C3.mono ?_
      rintro e w3 ⟨v3, rfl, hown3, hbel3⟩
      clear C3
      obtain ⟨A3, c3, rfl, hwt3⟩ := hown3.word
      have r3 := hide (r1.out.below hbel3 r1.out.lt)
      have b3 := hide (below_both b1.out hbel3 b1.out.size)
      have hW3 := hide hwt3
      clear d0 d1 d2 f0 f1 f2
      have d0 := (r3.out.cell 0).trans (show _ = some (.int .i64 0) from rfl)
      have d1 := (r3.out.cell 1).trans (show _ = some (.int .i64 0) from rfl)
      have d2 := (r3.out.cell 2).trans (show _ = some (.slice none 0 0) from rfl)
      have f0 := r3.out.frozen 0
      have f1 := r3.out.frozen 1
      have f2 := r3.out.frozen 2
      clear hown3 hbel3 hwt3
      by_cases he3 : e3 = 0
      · have t6 : ((e3 : Int) != 0) = false := by simp [he3]
        have hres : Hid (oneR bs at_ = .ok (⟨x1, x2, l⟩, to)) := by
          show _ = _
          unfold oneR
          rw [hn1.out]
          dsimp only
          rw [hn2.out]
          dsimp only
          rw [hG3.out]
          simp [he3]
        clear he3 hG3
        go_wp2_with fail
        have q3 : Row (((w3.setCell ⟨w.heap.size, 0, none⟩ (.int .i64 (x1 : Int))).setCell ⟨w.heap.size, 1, none⟩ (.int .i64 (x2 : Int))).setCell ⟨w.heap.size, 2, none⟩ (.slice A3 l.length c3)) w.heap.size 66 #[.int .i64 (x1 : Int), .int .i64 (x2 : Int), .slice A3 l.length c3] := ((r3.out.put 0 _).put 1 _).put 2 _
        have hb3 : Below w.heap.size w (((w3.setCell ⟨w.heap.size, 0, none⟩ (.int .i64 (x1 : Int))).setCell ⟨w.heap.size, 1, none⟩ (.int .i64 (x2 : Int))).setCell ⟨w.heap.size, 2, none⟩ (.slice A3 l.length c3)) := ((b3.out.setCell (p := ⟨w.heap.size, 0, none⟩) (Nat.le_refl _) _).setCell (p := ⟨w.heap.size, 1, none⟩) (Nat.le_refl _) _).setCell (p := ⟨w.heap.size, 2, none⟩) (Nat.le_refl _) _
        have hw3 : WordT (((w3.setCell ⟨w.heap.size, 0, none⟩ (.int .i64 (x1 : Int))).setCell ⟨w.heap.size, 1, none⟩ (.int .i64 (x2 : Int))).setCell ⟨w.heap.size, 2, none⟩ (.slice A3 l.length c3)) A3 c3 l := ((hW3.out.put r3.out (by decide) 0 _).put (r3.out.put 0 _) (by decide) 1 _).put ((r3.out.put 0 _).put 1 _) (by decide) 2 _
        clear d0 d1 d2 f0 f1 f2
        generalize ((w3.setCell ⟨w.heap.size, 0, none⟩ (.int .i64 (x1 : Int))).setCell ⟨w.heap.size, 1, none⟩ (.int .i64 (x2 : Int))).setCell ⟨w.heap.size, 2, none⟩ (.slice A3 l.length c3) = w9 at *
        have d0 := (q3.cell 0).trans (show _ = some (.int .i64 (x1 : Int)) from rfl)
        have d1 := (q3.cell 1).trans (show _ = some (.int .i64 (x2 : Int)) from rfl)
        have d2 := (q3.cell 2).trans (show _ = some (.slice A3 l.length c3) from rfl)
        refine bodyPost_ret (v := .tuple #[.agg #[.int .i64 (x1 : Int), .int .i64 (x2 : Int), .slice A3 l.length c3], .int .i64 to, .int .i64 0]) (by simp [results, Try.results61, go_sem, d0, d1, d2]) rfl ?_
        rw [hres.out]
        exact ⟨hb3, A3, c3, rfl, hw3⟩
      · have t6 : ((e3 : Int) != 0) = true := by simp; omega
        have hres : Hid (oneR bs at_ = .error e3) := by
          show _ = _
          unfold oneR
          rw [hn1.out]
          dsimp only
          rw [hn2.out]
          dsimp only
          rw [hG3.out]
          simp [he3]
        clear he3 hG3
        go_wp2_with fail
        have q3 : Row (((w3.setCell ⟨w.heap.size, 0, none⟩ (.int .i64 0)).setCell ⟨w.heap.size, 1, none⟩ (.int .i64 0)).setCell ⟨w.heap.size, 2, none⟩ (.slice none 0 0)) w.heap.size 66 #[.int .i64 0, .int .i64 0, .slice none 0 0] := ((r3.out.put 0 _).put 1 _).put 2 _
        have hb3 : Below w.heap.size w (((w3.setCell ⟨w.heap.size, 0, none⟩ (.int .i64 0)).setCell ⟨w.heap.size, 1, none⟩ (.int .i64 0)).setCell ⟨w.heap.size, 2, none⟩ (.slice none 0 0)) := ((b3.out.setCell (p := ⟨w.heap.size, 0, none⟩) (Nat.le_refl _) _).setCell (p := ⟨w.heap.size, 1, none⟩) (Nat.le_refl _) _).setCell (p := ⟨w.heap.size, 2, none⟩) (Nat.le_refl _) _
        clear d0 d1 d2 f0 f1 f2
        generalize ((w3.setCell ⟨w.heap.size, 0, none⟩ (.int .i64 0)).setCell ⟨w.heap.size, 1, none⟩ (.int .i64 0)).setCell ⟨w.heap.size, 2, none⟩ (.slice none 0 0) = w9 at *
        have d0 := (q3.cell 0).trans (show _ = some (.int .i64 0) from rfl)
        have d1 := (q3.cell 1).trans (show _ = some (.int .i64 0) from rfl)
        have d2 := (q3.cell 2).trans (show _ = some (.slice none 0 0) from rfl)
        refine bodyPost_ret (v := .tuple #[.agg #[.int .i64 0, .int .i64 0, .slice none 0 0], .int .i64 0, .int .i64 (e3 : Int)]) (by simp [results, Try.results61, go_sem, d0, d1, d2]) rfl ?_
        rw [hres.out]
        exact ⟨hb3, rfl⟩
    · have t4 : ((e2 : Int) != 0) = true := by simp; omega
      have hres : Hid (oneR bs at_ = .error e2) := by
        show _ = _
        unfold oneR
        rw [hn1.out]
        dsimp only
        unfold numR
        rw [hG2.out]
        dsimp only
        rw [if_pos (by simp; omega)]
      clear he2 hG2
      go_wp2_with fail
      have q3 : Row (((w1.setCell ⟨w.heap.size, 0, none⟩ (.int .i64 0)).setCell ⟨w.heap.size, 1, none⟩ (.int .i64 0)).setCell ⟨w.heap.size, 2, none⟩ (.slice none 0 0)) w.heap.size 66 #[.int .i64 0, .int .i64 0, .slice none 0 0] := ((r1.out.put 0 _).put 1 _).put 2 _
      have hb3 : Below w.heap.size w (((w1.setCell ⟨w.heap.size, 0, none⟩ (.int .i64 0)).setCell ⟨w.heap.size, 1, none⟩ (.int .i64 0)).setCell ⟨w.heap.size, 2, none⟩ (.slice none 0 0)) := ((b1.out.setCell (p := ⟨w.heap.size, 0, none⟩) (Nat.le_refl _) _).setCell (p := ⟨w.heap.size, 1, none⟩) (Nat.le_refl _) _).setCell (p := ⟨w.heap.size, 2, none⟩) (Nat.le_refl _) _
      clear d0 d1 d2 f0 f1 f2
      generalize ((w1.setCell ⟨w.heap.size, 0, none⟩ (.int .i64 0)).setCell ⟨w.heap.size, 1, none⟩ (.int .i64 0)).setCell ⟨w.heap.size, 2, none⟩ (.slice none 0 0) = w9 at *
      have d0 := (q3.cell 0).trans (show _ = some (.int .i64 0) from rfl)
      have d1 := (q3.cell 1).trans (show _ = some (.int .i64 0) from rfl)
      have d2 := (q3.cell 2).trans (show _ = some (.slice none 0 0) from rfl)
      refine bodyPost_ret (v := .tuple #[.agg #[.int .i64 0, .int .i64 0, .slice none 0 0], .int .i64 0, .int .i64 (e2 : Int)]) (by simp [results, Try.results61, go_sem, d0, d1, d2]) rfl ?_
      rw [hres.out]
      exact ⟨hb3, rfl⟩
  · have t1 : ((e1 : Int) != 0) = true := by simp; omega
    have hres : Hid (oneR bs at_ = .error e1) := by
      show _ = _
      unfold oneR numR
      rw [hG1.out]
      dsimp only
      rw [if_pos (by simp; omega)]
    clear he1 hG1
    go_wp2_with fail
    have q3 : Row (((w1.setCell ⟨w.heap.size, 0, none⟩ (.int .i64 0)).setCell ⟨w.heap.size, 1, none⟩ (.int .i64 0)).setCell ⟨w.heap.size, 2, none⟩ (.slice none 0 0)) w.heap.size 66 #[.int .i64 0, .int .i64 0, .slice none 0 0] := ((r1.out.put 0 _).put 1 _).put 2 _
    have hb3 : Below w.heap.size w (((w1.setCell ⟨w.heap.size, 0, none⟩ (.int .i64 0)).setCell ⟨w.heap.size, 1, none⟩ (.int .i64 0)).setCell ⟨w.heap.size, 2, none⟩ (.slice none 0 0)) := ((b1.out.setCell (p := ⟨w.heap.size, 0, none⟩) (Nat.le_refl _) _).setCell (p := ⟨w.heap.size, 1, none⟩) (Nat.le_refl _) _).setCell (p := ⟨w.heap.size, 2, none⟩) (Nat.le_refl _) _
    clear d0 d1 d2 f0 f1 f2
    generalize ((w1.setCell ⟨w.heap.size, 0, none⟩ (.int .i64 0)).setCell ⟨w.heap.size, 1, none⟩ (.int .i64 0)).setCell ⟨w.heap.size, 2, none⟩ (.slice none 0 0) = w9 at *
    have d0 := (q3.cell 0).trans (show _ = some (.int .i64 0) from rfl)
    have d1 := (q3.cell 1).trans (show _ = some (.int .i64 0) from rfl)
    have d2 := (q3.cell 2).trans (show _ = some (.slice none 0 0) from rfl)
    refine bodyPost_ret (v := .tuple #[.agg #[.int .i64 0, .int .i64 0, .slice none 0 0], .int .i64 0, .int .i64 (e1 : Int)]) (by simp [results, Try.results61, go_sem, d0, d1, d2]) rfl ?_
    rw [hres.out]
    exact ⟨hb3, rfl⟩
end Go.Proofs.Ytbfefjlilmoigaa
