/- The walk of CrcSums. -/
import Derived.Test.YtbfefjlilmoigaaT8
namespace Go.Proofs.Ytbfefjlilmoigaa
open Go.RowKit
set_option linter.unusedVariables false

theorem law_sums (A : Option Addr) (n c : Nat) (bs : List UInt8) (s : Nat) (w : World) (hb : Bytes w A n bs) (hs : s < 4294967296) :
    Calls Try.prog 3 #[.slice A n c, .int .u32 s] w fun e w' => e = .returned (.bool true) ∧ Below w.heap.size w w' := by
  have H := hide hb; clear hb
  by_cases h2000 : 2000 < n
  · go_enter Try.func3, Try.ntmps3
    go_wp2_with fail
    refine (alive4 _).mono ?_
    rintro e w1 ⟨rfl, hbel1⟩
    go_wp2_with fail
    go_ret
    exact ⟨rfl, hbel1⟩
  · go_enter Try.func3, Try.ntmps3
    go_wp2_with fail
    refine (alive4 _).mono ?_
    rintro e w1 ⟨rfl, hbel1⟩
    go_wp2_with fail
    refine (sum_any A n c bs _ (H.out.below hbel1) (by omega)).mono ?_
    rintro e w2 ⟨rfl, hbel2⟩
    have hb2 := below_both hbel1 hbel2 hbel1.size
    go_wp2_with fail
    refine (rsum_any A n c bs _ (H.out.below hb2) (by omega)).mono ?_
    rintro e w3 ⟨rfl, rfl⟩
    go_wp2_with fail
    refine (more_any s A n c bs _ hs (H.out.below hb2) (by omega)).mono ?_
    rintro e w3 ⟨rfl, hbel3⟩
    have hb3 := below_both hb2 hbel3 hb2.size
    go_wp2_with fail
    refine (rmore_any s A n c bs _ hs (H.out.below hb3) (by omega)).mono ?_
    rintro e w4 ⟨rfl, rfl⟩
    go_wp2_with fail
    go_ret
    exact ⟨rfl, hb3⟩
end Go.Proofs.Ytbfefjlilmoigaa
