/- The walk of CodeLists. -/
import Derived.Test.YtbfefjlilmoigaaT15
namespace Go.Proofs.Ytbfefjlilmoigaa
open Go.RowKit
set_option linter.unusedVariables false

theorem Row.below' {w w' : World} {g : Nat} {t : TypeId} {cs : Array Value} (h : Row w g t cs) (hb : Below w.heap.size w w') : Row w' g t cs := h.below hb h.lt

/-- The results of PutList behind names. -/
def errL (l : List Int) : Int := if okL l then 0 else 1
def outL (bs : List UInt8) (l : List Int) : List UInt8 := if okL l then bs ++ listB l else []
theorem PutPost.open_ {w : World} {bs : List UInt8} {l : List Int} {e : Ending} {w' : World} (h : PutPost w bs l e w') : ∃ v, e = .returned (.tuple #[v, .int .i64 (errL l)]) ∧ Own w' w.heap.size v (outL bs l) ∧ Below w.heap.size w w' := h

set_option maxRecDepth 100000 in
theorem law_lists (A B : Option Addr) (n c m d : Nat) (bs : List UInt8) (l : List Int) (x y : Int) (w : World) (hb : Bytes w A n bs) (hi : Ints w B m l) (hnc : n ≤ c) (hcm : c ≤ 9223372036854775807)
    (hx : ∀ z ∈ l, -9223372036854775808 ≤ z ∧ z ≤ 9223372036854775807) (hlo : -9223372036854775808 ≤ x) (hhi : x ≤ 9223372036854775807) :
    Calls Try.prog 10 #[.slice A n c, .slice B m d, .agg #[.int .i64 x, .int .i64 y]] w fun e w' => e = .returned (.bool true) ∧ Below w.heap.size w w' := by
  have H := hide hb
  have hl := hide hb.len
  have HI := hide hi
  have hil := hide hi.len
  have HX := hide hx
  have hlo' := hide hlo
  have hhi' := hide hhi
  have hcm' := hide hcm
  clear hb hi hx hlo hhi hcm
  by_cases h1000 : 1000 < n
  · go_enter Try.func10, Try.ntmps10
    go_wp2_with fail
    refine (alive5 _).mono ?_
    rintro e w1 ⟨rfl, hbel1⟩
    go_wp2_with fail
    go_ret
    exact ⟨rfl, below_both (below_alloc _ _) hbel1 (by simp)⟩
  have hgt : decide (1000 < (n : Int)) = false := by simp; omega
  by_cases h300 : 300 < m
  · have hgt3 : decide (300 < (m : Int)) = true := by simp; omega
    go_enter Try.func10, Try.ntmps10
    go_wp2_with fail
    refine (alive5 _).mono ?_
    rintro e w1 ⟨rfl, hbel1⟩
    go_wp2_with fail
    go_ret
    exact ⟨rfl, below_both (below_alloc _ _) hbel1 (by simp)⟩
  have hgt3 : decide (300 < (m : Int)) = false := by simp; omega
  go_enter Try.func10, Try.ntmps10
  go_wp2_with fail
  refine (alive5 _).mono ?_
  rintro e w1 ⟨rfl, hbel1⟩
  have hb1 : Below w.heap.size w w1 := below_both (below_alloc _ _) hbel1 (by simp)
  have r1 : Row w1 w.heap.size 51 #[.int .i64 x, .int .i64 y] := (Row.new w 51 _).below' hbel1
  go_wp2_with fail
  refine (putl_any A B n c m d bs l w1 (H.out.below hb1) (HI.out.below hb1) (by omega) (by omega) HX.out).mono ?_
  intro e w2 hp2
  obtain ⟨v2, rfl, hown2, hbel2⟩ := hp2.open_
  clear hp2
  have hb2 := below_both hb1 hbel2 hb1.size
  have r2 := r1.below' hbel2
  go_wp2_with fail
  refine (rputl_any A B n c m d bs l w2 (H.out.below hb2) (HI.out.below hb2) (by omega) (by omega) HX.out).mono ?_
  intro e w3 hp3
  obtain ⟨v3, rfl, hown3, hbel3⟩ := hp3.open_
  clear hp3
  have hb3 := below_both hb2 hbel3 hb2.size
  have r3 := r2.below' hbel3
  have c30 : w3.cell? ⟨w.heap.size, 0, none⟩ = some (.int .i64 x) := (r3.cell 0).trans rfl
  have c31 : w3.cell? ⟨w.heap.size, 1, none⟩ = some (.int .i64 y) := (r3.cell 1).trans rfl
  go_wp2_with fail
  refine (getl_any A n c bs x y w3 (H.out.below hb3) (by omega) hnc hcm'.out hlo'.out hhi'.out).mono ?_
  rintro e w4 ⟨v4, rfl, hown4, hbel4⟩
  have hb4 := below_both hb3 hbel4 hb3.size
  have r4 := r3.below' hbel4
  have c40 : w4.cell? ⟨w.heap.size, 0, none⟩ = some (.int .i64 x) := (r4.cell 0).trans rfl
  have c41 : w4.cell? ⟨w.heap.size, 1, none⟩ = some (.int .i64 y) := (r4.cell 1).trans rfl
  clear c30 c31
  go_wp2_with fail
  refine (rgetl_any A n c bs x y w4 (H.out.below hb4) (by omega) hlo'.out hhi'.out).mono ?_
  rintro e w5 ⟨v5, rfl, hown5, hbel5⟩
  have hb5 := below_both hb4 hbel5 hb4.size
  obtain ⟨A2, L2, c2, hv2, hL2, hB2, _⟩ := hown2.form2
  obtain ⟨A3, L3, c3, hv3, hL3, hB3, _⟩ := hown3.form2
  obtain ⟨A4, L4, c4, hv4, hL4, hB4, hl4, hm4⟩ := hown4.form2
  obtain ⟨A5, L5, c5, hv5, hL5, hB5, hl5, hm5⟩ := hown5.form2
  subst hv2 hv3 hv4 hv5
  have e2 := (((hB2.below hbel3).below hbel4).below hbel5).convert c2
  have e3 := ((hB3.below hbel4).below hbel5).convert c3
  have HB4 := hide (hB4.below hbel5)
  have HB5 := hide hB5
  have hb5' := hide hb5
  clear hown2 hown3 hown4 hown5 hB2 hB3 hB4 hB5 hbel1 hbel2 hbel3 hbel4 hbel5 hb1 hb2 hb3 hb4 hb5 r1 r2 r3 r4 c40 c41
  generalize outL bs l = out at *
  generalize getList bs x y = r at *
  obtain ⟨rl, ra, re⟩ := r
  dsimp only at HB4 HB5 hL4 hL5 ⊢
  generalize errL l = er at *
  go_wp2_with fail
  refine (rints_any A4 A5 L4 L5 c4 c5 rl rl _ HB4.out HB5.out (by omega) (by omega)).mono ?_
  rintro e w6 ⟨rfl, q, rfl⟩
  go_wp2_with fail
  go_ret
  exact ⟨rfl, below_drewN' hb5'.out _⟩
end Go.Proofs.Ytbfefjlilmoigaa
