/- The walk of CrcParts. -/
import Derived.Test.YtbfefjlilmoigaaT8
namespace Go.Proofs.Ytbfefjlilmoigaa
open Go.RowKit
set_option linter.unusedVariables false

theorem law_parts (A0 A1 A2 : Option Addr) (n0 n1 n2 c0 c1 c2 : Nat) (b0 b1 b2 : List UInt8) (w : World) (h0 : Bytes w A0 n0 b0) (h1 : Bytes w A1 n1 b1) (h2 : Bytes w A2 n2 b2)
    (r0 : n0 ≤ 140737488351232) (r1 : n1 ≤ 140737488351232) (r2 : n2 ≤ 140737488351232) :
    Calls Try.prog 5 #[.slice A0 n0 c0, .slice A1 n1 c1, .slice A2 n2 c2] w fun e w' => e = .returned (.bool true) ∧ Below w.heap.size w w' := by
  have H0 := hide h0
  have H1 := hide h1
  have H2 := hide h2
  have l0 := hide h0.len
  have l1 := hide h1.len
  have l2 := hide h2.len
  clear h0 h1 h2
  by_cases h2000 : 2000 < n0 + n1 + n2
  · go_enter Try.func5, Try.ntmps5
    go_wp2_with fail
    refine (alive4 _).mono ?_
    rintro e w1 ⟨rfl, hbel1⟩
    go_wp2_with fail
    go_ret
    exact ⟨rfl, hbel1⟩
  · go_enter Try.func5, Try.ntmps5
    go_wp2_with fail
    refine (alive4 _).mono ?_
    rintro e w1 ⟨rfl, hbel1⟩
    have hb1 : Hid (Below w.heap.size w w1) := hbel1
    go_wp2_with (at_builtin; refine appB w1.heap.size (Own.empty w1) (H0.out.below (hb1.out.trans ((below_alloc _ _).mono hb1.out.size))) (by have := l0.out; first | omega | (simp; omega)) (by simp) rfl _ _ rfl rfl _ rfl ?_)
    intro v2 w2 hown2 hbel2
    have hb2 : Hid (Below w.heap.size w w2) := (hb1.out.trans ((below_alloc _ _).mono hb1.out.size)).trans (hbel2.mono hb1.out.size)
    have hs2 := hbel2.size
    simp at hs2
    go_wp2_with (at_builtin; refine appB w1.heap.size hown2 (H1.out.below hb2.out) (by have := l0.out; first | omega | (simp; omega)) (by omega) rfl _ _ rfl rfl _ rfl ?_)
    intro v3 w3 hown3 hbel3
    have hb3 : Hid (Below w.heap.size w w3) := hb2.out.trans (hbel3.mono hb1.out.size)
    have hs3 := hbel3.size
    go_wp2_with (at_builtin; refine appB w1.heap.size hown3 (H2.out.below hb3.out) (by have := l0.out; have := l1.out; first | omega | (simp; omega)) (by omega) rfl _ _ rfl rfl _ rfl ?_)
    intro v4 w4 hown4 hbel4
    have hb4 : Below w.heap.size w w4 := hb3.out.trans (hbel4.mono hb1.out.size)
    clear hbel1 hbel2 hbel3 hbel4
    obtain ⟨A4, c4, hv4, hB4, _, _⟩ := hown4.form
    have hlen4 : (b0 ++ (b1 ++ b2)).length = n0 + n1 + n2 := by simp [l0.out, l1.out, l2.out]; omega
    rw [hlen4] at hv4 hB4
    subst hv4
    clear hown2 hown3 hown4 hlen4
    have HB := hide hB4
    have e1 : Crc.more (Crc.more 0 (nums b0)) (nums b1) = Crc.more 0 (nums (b0 ++ b1)) := by rw [nums_append, Crc.more_more 0 _ _ (by omega) (nums_lt _)]
    have e2 : Crc.more (Crc.more 0 (nums (b0 ++ b1))) (nums b2) = Crc.more 0 (nums (b0 ++ (b1 ++ b2))) := by rw [← List.append_assoc, nums_append (b0 ++ b1), Crc.more_more 0 _ _ (by omega) (nums_lt _)]
    have e3 : Crc.more (Crc.more 0 (nums (b0 ++ (b1 ++ b2)))) (nums []) = Crc.more 0 (nums (b0 ++ (b1 ++ b2))) := by
      rw [Crc.more_more 0 _ _ (by omega) (nums_lt _)]
      simp [nums]
    have C0 := fun W (hW : Below w.heap.size w W) => sum_any A0 n0 c0 b0 W (H0.out.below hW) (by omega)
    have C1 := fun W (hW : Below w.heap.size w W) => more_any (Crc.more 0 (nums b0)) A1 n1 c1 b1 W (Crc.more_lt _ _) (H1.out.below hW) (by omega)
    rw [e1] at C1
    have C2 := fun W (hW : Below w.heap.size w W) => more_any (Crc.more 0 (nums (b0 ++ b1))) A2 n2 c2 b2 W (Crc.more_lt _ _) (H2.out.below hW) (by omega)
    rw [e2] at C2
    have CS := fun W (hW : Below w4.heap.size w4 W) => sum_any A4 (n0 + n1 + n2) c4 _ W (HB.out.below hW) (by omega)
    have CM := fun W (hW : Below w4.heap.size w4 W) => more_any 0 A4 (n0 + n1 + n2) c4 _ W (by omega) (HB.out.below hW) (by omega)
    have CN := fun W => more_any (Crc.more 0 (nums (b0 ++ (b1 ++ b2)))) none 0 0 [] W (Crc.more_lt _ _) (Elems.nil _ _) (by omega)
    rw [e3] at CN
    have lt0 := Crc.more_lt 0 (nums b0)
    have lt1 := Crc.more_lt 0 (nums (b0 ++ b1))
    have lt2 := Crc.more_lt 0 (nums (b0 ++ (b1 ++ b2)))
    clear e1 e2 e3 hB4
    generalize Crc.more 0 (nums b0) = m0 at *
    generalize Crc.more 0 (nums (b0 ++ b1)) = m1 at *
    generalize Crc.more 0 (nums (b0 ++ (b1 ++ b2))) = m2 at *
    have D0 := hide C0
    have D1 := hide C1
    have D2 := hide C2
    have DS := hide CS
    have DM := hide CM
    have DN := hide CN
    clear C0 C1 C2 CS CM CN
    go_wp2_with fail
    refine (D0.out _ hb4).mono ?_
    rintro e w5 ⟨rfl, hbel5⟩
    have hx5 : Below w4.heap.size w4 w5 := hbel5
    have hb5 := below_both hb4 hbel5 hb4.size
    go_wp2_with fail
    refine (D1.out _ hb5).mono ?_
    rintro e w6 ⟨rfl, hbel6⟩
    have hx6 := below_both hx5 hbel6 hx5.size
    have hb6 := below_both hb5 hbel6 hb5.size
    go_wp2_with fail
    refine (D2.out _ hb6).mono ?_
    rintro e w7 ⟨rfl, hbel7⟩
    have hx7 := below_both hx6 hbel7 hx6.size
    have hb7 := below_both hb6 hbel7 hb6.size
    go_wp2_with fail
    refine (DS.out _ hx7).mono ?_
    rintro e w8 ⟨rfl, hbel8⟩
    have hx8 := below_both hx7 hbel8 hx7.size
    have hb8 := below_both hb7 hbel8 hb7.size
    go_wp2_with fail
    refine (DM.out _ hx8).mono ?_
    rintro e w9 ⟨rfl, hbel9⟩
    have hx9 := below_both hx8 hbel9 hx8.size
    have hb9 := below_both hb8 hbel9 hb8.size
    clear hbel5 hbel6 hbel7 hbel8 hbel9 hx5 hx6 hx7 hx8 hb5 hb6 hb7 hb8
    go_wp2_with fail
    refine (DS.out _ hx9).mono ?_
    rintro e w10 ⟨rfl, hbel10⟩
    have hx10 := below_both hx9 hbel10 hx9.size
    have hb10 := below_both hb9 hbel10 hb9.size
    go_wp2_with fail
    refine (DS.out _ hx10).mono ?_
    rintro e w11 ⟨rfl, hbel11⟩
    have hx11 := below_both hx10 hbel11 hx10.size
    have hb11 := below_both hb10 hbel11 hb10.size
    go_wp2_with fail
    refine (DN.out _).mono ?_
    rintro e w12 ⟨rfl, hbel12⟩
    have hx12 := below_both hx11 hbel12 hx11.size
    have hb12 := below_both hb11 hbel12 hb11.size
    go_wp2_with fail
    refine (DS.out _ hx12).mono ?_
    rintro e w13 ⟨rfl, hbel13⟩
    have hb13 := below_both hb12 hbel13 hb12.size
    go_wp2_with fail
    go_ret
    exact ⟨rfl, hb13⟩
end Go.Proofs.Ytbfefjlilmoigaa
