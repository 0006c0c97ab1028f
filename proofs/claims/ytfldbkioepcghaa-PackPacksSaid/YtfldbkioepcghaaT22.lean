/- The fixed fact of layer 18's statements. -/
import Derived.Test.YtfldbkioepcghaaT13
import Derived.Test.YtfldbkioepcghaaT17
import Derived.Test.YtfldbkioepcghaaP1
namespace Go.Proofs.Ytfldbkioepcghaa
open Go.RowKit
set_option linter.unusedVariables false

theorem nest_two {α : Type} {f : α → List Value} {k e eo : Nat} {w : World} {g1 g2 g n1 n2 : Nat} {x y : List α} (hk : ∀ x, (f x).length = k) (h1 : Row w g1 e (flat f x).toArray) (h2 : Row w g2 e (flat f y).toArray) (e1 : x.length = n1) (e2 : y.length = n2)
    (h : Row w g eo #[.slice (some ⟨g1, 0, none⟩) n1 n1, .slice (some ⟨g2, 0, none⟩) n2 n2]) (l1 : n1 ≤ 1000) (l2 : n2 ≤ 1000) : Nest w k f (some ⟨g, 0, none⟩) 2 [x, y] := by
  subst e1 e2
  refine ⟨rfl, fun _ => ⟨g, 0, rfl, fun j r hr => ?_⟩⟩
  match j, hr with
  | 0, hr =>
    obtain rfl := Option.some.inj hr
    exact ⟨some ⟨g1, 0, none⟩, x.length, (h.cell 0).trans rfl, (row_inT hk h1 (by omega)).1, by omega, by omega⟩
  | 1, hr =>
    obtain rfl := Option.some.inj hr
    exact ⟨some ⟨g2, 0, none⟩, y.length, (h.cell 1).trans rfl, (row_inT hk h2 (by omega)).1, by omega, by omega⟩
  | j + 2, hr => simp at hr

def aliveT : Tab := ⟨[[(0, 0), (1, 0)], [(0, 0), (1, 0)]], [[-1], [0]]⟩
def aliveP : Pk := ⟨1, 1, [[(1, 1, 0)]], [0, 0], [[], [(0, 0)]], [0, 1]⟩
theorem aliveS : shapedT aliveT = true := by decide
theorem alive1 : packT aliveT = aliveP := by decide
theorem alive2 : packE aliveT = (aliveP, 0) := by unfold packE; rw [if_pos aliveS, alive1]
theorem alive3 : unpackE aliveP = (aliveT, 0) := by
  unfold unpackE
  rw [← alive1, if_pos (pack_right aliveS), unpack_pack aliveS]
theorem alive4 : packE ⟨[], []⟩ = (⟨0, 0, [], [], [], []⟩, 1) := by decide
theorem alive5 : unpackE ⟨0, 0, [], [], [], []⟩ = (⟨[], []⟩, 1) := by decide
theorem alive6 : actP aliveP 1 1 = (1, 0) := by rw [← alive1]; exact act_pack aliveS (i := 1) (k := 1) (r := [(0, 0), (1, 0)]) rfl rfl
theorem alive7 : actP aliveP 1 0 = (0, 0) := by rw [← alive1]; exact act_pack aliveS (i := 1) (k := 0) (r := [(0, 0), (1, 0)]) rfl rfl
theorem alive8 : gotP aliveP 1 0 = 0 := by rw [← alive1]; exact got_pack aliveS (i := 1) (k := 0) (r := [0]) rfl rfl
theorem alive9 : gotP aliveP 0 0 = -1 := by rw [← alive1]; exact got_pack aliveS (i := 0) (k := 0) (r := [-1]) rfl rfl
theorem alive10 : rightP aliveP = true := by rw [← alive1]; exact pack_right aliveS
theorem alive11 : sameP aliveP aliveP = true := by rw [sameP_eq]; decide
theorem alive12 : sameP aliveP ⟨0, 0, [], [], [], []⟩ = false := by rw [sameP_eq]; decide

set_option maxHeartbeats 4000000 in
set_option maxRecDepth 100000 in
theorem alive18 (w : World) : Calls Try.prog 8 #[] w fun e w' => e = .returned (.bool true) ∧ Below w.heap.size w w' := by
  have r0 : Row (w.alloc (.cells #[.int .i64 0, .int .i64 0, .int .i64 1, .int .i64 0] 43)) (w.heap.size) 43 #[.int .i64 0, .int .i64 0, .int .i64 1, .int .i64 0] := by
    have := Row.new w 43 #[.int .i64 0, .int .i64 0, .int .i64 1, .int .i64 0]
    simpa using this
  have r0 := r0.alloc (.cells #[.int .i64 0, .int .i64 0, .int .i64 1, .int .i64 0] 43)
  have r0 := r0.alloc (.cells #[.slice (some ⟨w.heap.size, 0, none⟩) 2 2, .slice (some ⟨w.heap.size + 1, 0, none⟩) 2 2] 47)
  have r0 := r0.alloc (.cells #[.int .i64 (-1)] 3)
  have r0 := r0.alloc (.cells #[.int .i64 0] 3)
  have r0 := r0.alloc (.cells #[.slice (some ⟨w.heap.size + 1 + 1 + 1, 0, none⟩) 1 1, .slice (some ⟨w.heap.size + 1 + 1 + 1 + 1, 0, none⟩) 1 1] 30)
  have r0 := r0.alloc (.cells #[.slice (some ⟨w.heap.size + 1 + 1, 0, none⟩) 2 2, .slice (some ⟨w.heap.size + 1 + 1 + 1 + 1 + 1, 0, none⟩) 2 2] 25)
  have r1 : Row ((w.alloc (.cells #[.int .i64 0, .int .i64 0, .int .i64 1, .int .i64 0] 43)).alloc (.cells #[.int .i64 0, .int .i64 0, .int .i64 1, .int .i64 0] 43)) (w.heap.size + 1) 43 #[.int .i64 0, .int .i64 0, .int .i64 1, .int .i64 0] := by
    have := Row.new (w.alloc (.cells #[.int .i64 0, .int .i64 0, .int .i64 1, .int .i64 0] 43)) 43 #[.int .i64 0, .int .i64 0, .int .i64 1, .int .i64 0]
    simpa using this
  have r1 := r1.alloc (.cells #[.slice (some ⟨w.heap.size, 0, none⟩) 2 2, .slice (some ⟨w.heap.size + 1, 0, none⟩) 2 2] 47)
  have r1 := r1.alloc (.cells #[.int .i64 (-1)] 3)
  have r1 := r1.alloc (.cells #[.int .i64 0] 3)
  have r1 := r1.alloc (.cells #[.slice (some ⟨w.heap.size + 1 + 1 + 1, 0, none⟩) 1 1, .slice (some ⟨w.heap.size + 1 + 1 + 1 + 1, 0, none⟩) 1 1] 30)
  have r1 := r1.alloc (.cells #[.slice (some ⟨w.heap.size + 1 + 1, 0, none⟩) 2 2, .slice (some ⟨w.heap.size + 1 + 1 + 1 + 1 + 1, 0, none⟩) 2 2] 25)
  have r2 : Row (((w.alloc (.cells #[.int .i64 0, .int .i64 0, .int .i64 1, .int .i64 0] 43)).alloc (.cells #[.int .i64 0, .int .i64 0, .int .i64 1, .int .i64 0] 43)).alloc (.cells #[.slice (some ⟨w.heap.size, 0, none⟩) 2 2, .slice (some ⟨w.heap.size + 1, 0, none⟩) 2 2] 47)) (w.heap.size + 1 + 1) 47 #[.slice (some ⟨w.heap.size, 0, none⟩) 2 2, .slice (some ⟨w.heap.size + 1, 0, none⟩) 2 2] := by
    have := Row.new ((w.alloc (.cells #[.int .i64 0, .int .i64 0, .int .i64 1, .int .i64 0] 43)).alloc (.cells #[.int .i64 0, .int .i64 0, .int .i64 1, .int .i64 0] 43)) 47 #[.slice (some ⟨w.heap.size, 0, none⟩) 2 2, .slice (some ⟨w.heap.size + 1, 0, none⟩) 2 2]
    simpa using this
  have r2 := r2.alloc (.cells #[.int .i64 (-1)] 3)
  have r2 := r2.alloc (.cells #[.int .i64 0] 3)
  have r2 := r2.alloc (.cells #[.slice (some ⟨w.heap.size + 1 + 1 + 1, 0, none⟩) 1 1, .slice (some ⟨w.heap.size + 1 + 1 + 1 + 1, 0, none⟩) 1 1] 30)
  have r2 := r2.alloc (.cells #[.slice (some ⟨w.heap.size + 1 + 1, 0, none⟩) 2 2, .slice (some ⟨w.heap.size + 1 + 1 + 1 + 1 + 1, 0, none⟩) 2 2] 25)
  have r3 : Row ((((w.alloc (.cells #[.int .i64 0, .int .i64 0, .int .i64 1, .int .i64 0] 43)).alloc (.cells #[.int .i64 0, .int .i64 0, .int .i64 1, .int .i64 0] 43)).alloc (.cells #[.slice (some ⟨w.heap.size, 0, none⟩) 2 2, .slice (some ⟨w.heap.size + 1, 0, none⟩) 2 2] 47)).alloc (.cells #[.int .i64 (-1)] 3)) (w.heap.size + 1 + 1 + 1) 3 #[.int .i64 (-1)] := by
    have := Row.new (((w.alloc (.cells #[.int .i64 0, .int .i64 0, .int .i64 1, .int .i64 0] 43)).alloc (.cells #[.int .i64 0, .int .i64 0, .int .i64 1, .int .i64 0] 43)).alloc (.cells #[.slice (some ⟨w.heap.size, 0, none⟩) 2 2, .slice (some ⟨w.heap.size + 1, 0, none⟩) 2 2] 47)) 3 #[.int .i64 (-1)]
    simpa using this
  have r3 := r3.alloc (.cells #[.int .i64 0] 3)
  have r3 := r3.alloc (.cells #[.slice (some ⟨w.heap.size + 1 + 1 + 1, 0, none⟩) 1 1, .slice (some ⟨w.heap.size + 1 + 1 + 1 + 1, 0, none⟩) 1 1] 30)
  have r3 := r3.alloc (.cells #[.slice (some ⟨w.heap.size + 1 + 1, 0, none⟩) 2 2, .slice (some ⟨w.heap.size + 1 + 1 + 1 + 1 + 1, 0, none⟩) 2 2] 25)
  have r4 : Row (((((w.alloc (.cells #[.int .i64 0, .int .i64 0, .int .i64 1, .int .i64 0] 43)).alloc (.cells #[.int .i64 0, .int .i64 0, .int .i64 1, .int .i64 0] 43)).alloc (.cells #[.slice (some ⟨w.heap.size, 0, none⟩) 2 2, .slice (some ⟨w.heap.size + 1, 0, none⟩) 2 2] 47)).alloc (.cells #[.int .i64 (-1)] 3)).alloc (.cells #[.int .i64 0] 3)) (w.heap.size + 1 + 1 + 1 + 1) 3 #[.int .i64 0] := by
    have := Row.new ((((w.alloc (.cells #[.int .i64 0, .int .i64 0, .int .i64 1, .int .i64 0] 43)).alloc (.cells #[.int .i64 0, .int .i64 0, .int .i64 1, .int .i64 0] 43)).alloc (.cells #[.slice (some ⟨w.heap.size, 0, none⟩) 2 2, .slice (some ⟨w.heap.size + 1, 0, none⟩) 2 2] 47)).alloc (.cells #[.int .i64 (-1)] 3)) 3 #[.int .i64 0]
    simpa using this
  have r4 := r4.alloc (.cells #[.slice (some ⟨w.heap.size + 1 + 1 + 1, 0, none⟩) 1 1, .slice (some ⟨w.heap.size + 1 + 1 + 1 + 1, 0, none⟩) 1 1] 30)
  have r4 := r4.alloc (.cells #[.slice (some ⟨w.heap.size + 1 + 1, 0, none⟩) 2 2, .slice (some ⟨w.heap.size + 1 + 1 + 1 + 1 + 1, 0, none⟩) 2 2] 25)
  have r5 : Row ((((((w.alloc (.cells #[.int .i64 0, .int .i64 0, .int .i64 1, .int .i64 0] 43)).alloc (.cells #[.int .i64 0, .int .i64 0, .int .i64 1, .int .i64 0] 43)).alloc (.cells #[.slice (some ⟨w.heap.size, 0, none⟩) 2 2, .slice (some ⟨w.heap.size + 1, 0, none⟩) 2 2] 47)).alloc (.cells #[.int .i64 (-1)] 3)).alloc (.cells #[.int .i64 0] 3)).alloc (.cells #[.slice (some ⟨w.heap.size + 1 + 1 + 1, 0, none⟩) 1 1, .slice (some ⟨w.heap.size + 1 + 1 + 1 + 1, 0, none⟩) 1 1] 30)) (w.heap.size + 1 + 1 + 1 + 1 + 1) 30 #[.slice (some ⟨w.heap.size + 1 + 1 + 1, 0, none⟩) 1 1, .slice (some ⟨w.heap.size + 1 + 1 + 1 + 1, 0, none⟩) 1 1] := by
    have := Row.new (((((w.alloc (.cells #[.int .i64 0, .int .i64 0, .int .i64 1, .int .i64 0] 43)).alloc (.cells #[.int .i64 0, .int .i64 0, .int .i64 1, .int .i64 0] 43)).alloc (.cells #[.slice (some ⟨w.heap.size, 0, none⟩) 2 2, .slice (some ⟨w.heap.size + 1, 0, none⟩) 2 2] 47)).alloc (.cells #[.int .i64 (-1)] 3)).alloc (.cells #[.int .i64 0] 3)) 30 #[.slice (some ⟨w.heap.size + 1 + 1 + 1, 0, none⟩) 1 1, .slice (some ⟨w.heap.size + 1 + 1 + 1 + 1, 0, none⟩) 1 1]
    simpa using this
  have r5 := r5.alloc (.cells #[.slice (some ⟨w.heap.size + 1 + 1, 0, none⟩) 2 2, .slice (some ⟨w.heap.size + 1 + 1 + 1 + 1 + 1, 0, none⟩) 2 2] 25)
  have r6 : Row (((((((w.alloc (.cells #[.int .i64 0, .int .i64 0, .int .i64 1, .int .i64 0] 43)).alloc (.cells #[.int .i64 0, .int .i64 0, .int .i64 1, .int .i64 0] 43)).alloc (.cells #[.slice (some ⟨w.heap.size, 0, none⟩) 2 2, .slice (some ⟨w.heap.size + 1, 0, none⟩) 2 2] 47)).alloc (.cells #[.int .i64 (-1)] 3)).alloc (.cells #[.int .i64 0] 3)).alloc (.cells #[.slice (some ⟨w.heap.size + 1 + 1 + 1, 0, none⟩) 1 1, .slice (some ⟨w.heap.size + 1 + 1 + 1 + 1, 0, none⟩) 1 1] 30)).alloc (.cells #[.slice (some ⟨w.heap.size + 1 + 1, 0, none⟩) 2 2, .slice (some ⟨w.heap.size + 1 + 1 + 1 + 1 + 1, 0, none⟩) 2 2] 25)) (w.heap.size + 1 + 1 + 1 + 1 + 1 + 1) 25 #[.slice (some ⟨w.heap.size + 1 + 1, 0, none⟩) 2 2, .slice (some ⟨w.heap.size + 1 + 1 + 1 + 1 + 1, 0, none⟩) 2 2] := by
    have := Row.new ((((((w.alloc (.cells #[.int .i64 0, .int .i64 0, .int .i64 1, .int .i64 0] 43)).alloc (.cells #[.int .i64 0, .int .i64 0, .int .i64 1, .int .i64 0] 43)).alloc (.cells #[.slice (some ⟨w.heap.size, 0, none⟩) 2 2, .slice (some ⟨w.heap.size + 1, 0, none⟩) 2 2] 47)).alloc (.cells #[.int .i64 (-1)] 3)).alloc (.cells #[.int .i64 0] 3)).alloc (.cells #[.slice (some ⟨w.heap.size + 1 + 1 + 1, 0, none⟩) 1 1, .slice (some ⟨w.heap.size + 1 + 1 + 1 + 1, 0, none⟩) 1 1] 30)) 25 #[.slice (some ⟨w.heap.size + 1 + 1, 0, none⟩) 2 2, .slice (some ⟨w.heap.size + 1 + 1 + 1 + 1 + 1, 0, none⟩) 2 2]
    simpa using this
  have b1 : Hid (Below w.heap.size w (((((((w.alloc (.cells #[.int .i64 0, .int .i64 0, .int .i64 1, .int .i64 0] 43)).alloc (.cells #[.int .i64 0, .int .i64 0, .int .i64 1, .int .i64 0] 43)).alloc (.cells #[.slice (some ⟨w.heap.size, 0, none⟩) 2 2, .slice (some ⟨w.heap.size + 1, 0, none⟩) 2 2] 47)).alloc (.cells #[.int .i64 (-1)] 3)).alloc (.cells #[.int .i64 0] 3)).alloc (.cells #[.slice (some ⟨w.heap.size + 1 + 1 + 1, 0, none⟩) 1 1, .slice (some ⟨w.heap.size + 1 + 1 + 1 + 1, 0, none⟩) 1 1] 30)).alloc (.cells #[.slice (some ⟨w.heap.size + 1 + 1, 0, none⟩) 2 2, .slice (some ⟨w.heap.size + 1 + 1 + 1 + 1 + 1, 0, none⟩) 2 2] 25))) := (((((((Below.refl _ _).alloc (Nat.le_refl _) _).alloc (by simp) _).alloc (by simp; omega) _).alloc (by simp; omega) _).alloc (by simp; omega) _).alloc (by simp; omega) _).alloc (by simp; omega) _
  have R1 : Hid (Row (((((((w.alloc (.cells #[.int .i64 0, .int .i64 0, .int .i64 1, .int .i64 0] 43)).alloc (.cells #[.int .i64 0, .int .i64 0, .int .i64 1, .int .i64 0] 43)).alloc (.cells #[.slice (some ⟨w.heap.size, 0, none⟩) 2 2, .slice (some ⟨w.heap.size + 1, 0, none⟩) 2 2] 47)).alloc (.cells #[.int .i64 (-1)] 3)).alloc (.cells #[.int .i64 0] 3)).alloc (.cells #[.slice (some ⟨w.heap.size + 1 + 1 + 1, 0, none⟩) 1 1, .slice (some ⟨w.heap.size + 1 + 1 + 1 + 1, 0, none⟩) 1 1] 30)).alloc (.cells #[.slice (some ⟨w.heap.size + 1 + 1, 0, none⟩) 2 2, .slice (some ⟨w.heap.size + 1 + 1 + 1 + 1 + 1, 0, none⟩) 2 2] 25)) (w.heap.size + 1 + 1 + 1 + 1 + 1 + 1) 25 #[.slice (some ⟨w.heap.size + 1 + 1, 0, none⟩) 2 2, .slice (some ⟨w.heap.size + 1 + 1 + 1 + 1 + 1, 0, none⟩) 2 2]) := r6
  have HT : Hid (TabAt (((((((w.alloc (.cells #[.int .i64 0, .int .i64 0, .int .i64 1, .int .i64 0] 43)).alloc (.cells #[.int .i64 0, .int .i64 0, .int .i64 1, .int .i64 0] 43)).alloc (.cells #[.slice (some ⟨w.heap.size, 0, none⟩) 2 2, .slice (some ⟨w.heap.size + 1, 0, none⟩) 2 2] 47)).alloc (.cells #[.int .i64 (-1)] 3)).alloc (.cells #[.int .i64 0] 3)).alloc (.cells #[.slice (some ⟨w.heap.size + 1 + 1 + 1, 0, none⟩) 1 1, .slice (some ⟨w.heap.size + 1 + 1 + 1 + 1, 0, none⟩) 1 1] 30)).alloc (.cells #[.slice (some ⟨w.heap.size + 1 + 1, 0, none⟩) 2 2, .slice (some ⟨w.heap.size + 1 + 1 + 1 + 1 + 1, 0, none⟩) 2 2] 25)) (some ⟨w.heap.size + 1 + 1, 0, none⟩) (some ⟨w.heap.size + 1 + 1 + 1 + 1 + 1, 0, none⟩) 2 2 aliveT) := ⟨nest_two (n1 := 2) (n2 := 2) k2 r0 r1 rfl rfl r2 (by omega) (by omega), nest_two (n1 := 1) (n2 := 1) Ytfldbkioepcghaa.k1 r3 r4 rfl rfl r5 (by omega) (by omega)⟩
  have hx0 := (r6.cell 0).trans (show _ = some (.slice (some ⟨w.heap.size + 1 + 1, 0, none⟩) 2 2) from rfl)
  have hx1 := (r6.cell 1).trans (show _ = some (.slice (some ⟨w.heap.size + 1 + 1 + 1 + 1 + 1, 0, none⟩) 2 2) from rfl)
  have C1 : Calls Try.prog 11 #[.agg #[.slice (some ⟨w.heap.size + 1 + 1, 0, none⟩) 2 2, .slice (some ⟨w.heap.size + 1 + 1 + 1 + 1 + 1, 0, none⟩) 2 2]] (((((((w.alloc (.cells #[.int .i64 0, .int .i64 0, .int .i64 1, .int .i64 0] 43)).alloc (.cells #[.int .i64 0, .int .i64 0, .int .i64 1, .int .i64 0] 43)).alloc (.cells #[.slice (some ⟨w.heap.size, 0, none⟩) 2 2, .slice (some ⟨w.heap.size + 1, 0, none⟩) 2 2] 47)).alloc (.cells #[.int .i64 (-1)] 3)).alloc (.cells #[.int .i64 0] 3)).alloc (.cells #[.slice (some ⟨w.heap.size + 1 + 1 + 1, 0, none⟩) 1 1, .slice (some ⟨w.heap.size + 1 + 1 + 1 + 1, 0, none⟩) 1 1] 30)).alloc (.cells #[.slice (some ⟨w.heap.size + 1 + 1, 0, none⟩) 2 2, .slice (some ⟨w.heap.size + 1 + 1 + 1 + 1 + 1, 0, none⟩) 2 2] 25)) (fun e w' => ∃ R O G T rc oc gc tc, e = .returned (.tuple #[.agg #[.int .i64 1, .int .i64 1, .slice R 1 rc, .slice O 2 oc, .slice G 2 gc, .slice T 2 tc], .int .i64 0]) ∧
      PkOwn w' (((((((w.alloc (.cells #[.int .i64 0, .int .i64 0, .int .i64 1, .int .i64 0] 43)).alloc (.cells #[.int .i64 0, .int .i64 0, .int .i64 1, .int .i64 0] 43)).alloc (.cells #[.slice (some ⟨w.heap.size, 0, none⟩) 2 2, .slice (some ⟨w.heap.size + 1, 0, none⟩) 2 2] 47)).alloc (.cells #[.int .i64 (-1)] 3)).alloc (.cells #[.int .i64 0] 3)).alloc (.cells #[.slice (some ⟨w.heap.size + 1 + 1 + 1, 0, none⟩) 1 1, .slice (some ⟨w.heap.size + 1 + 1 + 1 + 1, 0, none⟩) 1 1] 30)).alloc (.cells #[.slice (some ⟨w.heap.size + 1 + 1, 0, none⟩) 2 2, .slice (some ⟨w.heap.size + 1 + 1 + 1 + 1 + 1, 0, none⟩) 2 2] 25)).heap.size R O G T rc oc gc tc aliveP ∧ Below (((((((w.alloc (.cells #[.int .i64 0, .int .i64 0, .int .i64 1, .int .i64 0] 43)).alloc (.cells #[.int .i64 0, .int .i64 0, .int .i64 1, .int .i64 0] 43)).alloc (.cells #[.slice (some ⟨w.heap.size, 0, none⟩) 2 2, .slice (some ⟨w.heap.size + 1, 0, none⟩) 2 2] 47)).alloc (.cells #[.int .i64 (-1)] 3)).alloc (.cells #[.int .i64 0] 3)).alloc (.cells #[.slice (some ⟨w.heap.size + 1 + 1 + 1, 0, none⟩) 1 1, .slice (some ⟨w.heap.size + 1 + 1 + 1 + 1, 0, none⟩) 1 1] 30)).alloc (.cells #[.slice (some ⟨w.heap.size + 1 + 1, 0, none⟩) 2 2, .slice (some ⟨w.heap.size + 1 + 1 + 1 + 1 + 1, 0, none⟩) 2 2] 25)).heap.size (((((((w.alloc (.cells #[.int .i64 0, .int .i64 0, .int .i64 1, .int .i64 0] 43)).alloc (.cells #[.int .i64 0, .int .i64 0, .int .i64 1, .int .i64 0] 43)).alloc (.cells #[.slice (some ⟨w.heap.size, 0, none⟩) 2 2, .slice (some ⟨w.heap.size + 1, 0, none⟩) 2 2] 47)).alloc (.cells #[.int .i64 (-1)] 3)).alloc (.cells #[.int .i64 0] 3)).alloc (.cells #[.slice (some ⟨w.heap.size + 1 + 1 + 1, 0, none⟩) 1 1, .slice (some ⟨w.heap.size + 1 + 1 + 1 + 1, 0, none⟩) 1 1] 30)).alloc (.cells #[.slice (some ⟨w.heap.size + 1 + 1, 0, none⟩) 2 2, .slice (some ⟨w.heap.size + 1 + 1 + 1 + 1 + 1, 0, none⟩) 2 2] 25)) w') := by
    have h := pack_any _ _ 2 2 2 2 aliveT (((((((w.alloc (.cells #[.int .i64 0, .int .i64 0, .int .i64 1, .int .i64 0] 43)).alloc (.cells #[.int .i64 0, .int .i64 0, .int .i64 1, .int .i64 0] 43)).alloc (.cells #[.slice (some ⟨w.heap.size, 0, none⟩) 2 2, .slice (some ⟨w.heap.size + 1, 0, none⟩) 2 2] 47)).alloc (.cells #[.int .i64 (-1)] 3)).alloc (.cells #[.int .i64 0] 3)).alloc (.cells #[.slice (some ⟨w.heap.size + 1 + 1 + 1, 0, none⟩) 1 1, .slice (some ⟨w.heap.size + 1 + 1 + 1 + 1, 0, none⟩) 1 1] 30)).alloc (.cells #[.slice (some ⟨w.heap.size + 1 + 1, 0, none⟩) 2 2, .slice (some ⟨w.heap.size + 1 + 1 + 1 + 1 + 1, 0, none⟩) 2 2] 25)) HT.out.acts HT.out.gots (by omega)
    rw [alive2] at h
    exact h
  clear r0 r1 r2 r3 r4 r5 r6
  have hfd : ∀ w : World, (Instr.field 43 (.agg #[.int .i64 1, .int .i64 0]) 0).run Try.prog w = .ok (.int .i64 1) w := fun _ => by kernel_rfl
  go_enter Try.func8, Try.ntmps8
  go_wp2_with fail
  clear hx0 hx1
  generalize (((((((w.alloc (.cells #[.int .i64 0, .int .i64 0, .int .i64 1, .int .i64 0] 43)).alloc (.cells #[.int .i64 0, .int .i64 0, .int .i64 1, .int .i64 0] 43)).alloc (.cells #[.slice (some ⟨w.heap.size, 0, none⟩) 2 2, .slice (some ⟨w.heap.size + 1, 0, none⟩) 2 2] 47)).alloc (.cells #[.int .i64 (-1)] 3)).alloc (.cells #[.int .i64 0] 3)).alloc (.cells #[.slice (some ⟨w.heap.size + 1 + 1 + 1, 0, none⟩) 1 1, .slice (some ⟨w.heap.size + 1 + 1 + 1 + 1, 0, none⟩) 1 1] 30)).alloc (.cells #[.slice (some ⟨w.heap.size + 1 + 1, 0, none⟩) 2 2, .slice (some ⟨w.heap.size + 1 + 1 + 1 + 1 + 1, 0, none⟩) 2 2] 25)) = w1 at *
  generalize w.heap.size + 1 + 1 + 1 + 1 + 1 + 1 = p1 at *
  generalize w.heap.size + 1 + 1 + 1 + 1 + 1 = q5 at *
  generalize w.heap.size + 1 + 1 = q2 at *
  refine C1.mono ?_
  clear C1
  rintro e w2 ⟨R, O, G, T, rc, oc, gc, tc, rfl, hPk, hb2⟩
  have b2 := below_both b1.out hb2 b1.out.size
  have R1 := R1.out.below hb2 R1.out.lt
  have HT := HT.out.below hb2
  have HP0 : PkAt w2 R O G T 1 2 2 2 aliveP := hPk.at_
  clear hb2 hPk b1
  have b3 : Hid (Below w.heap.size w (w2.alloc (.cells #[.int .i64 1, .int .i64 1, .slice R 1 rc, .slice O 2 oc, .slice G 2 gc, .slice T 2 tc] 33))) := b2.alloc b2.size _
  have R1 := hide (R1.alloc (.cells #[.int .i64 1, .int .i64 1, .slice R 1 rc, .slice O 2 oc, .slice G 2 gc, .slice T 2 tc] 33))
  have HT := hide (HT.below (below_alloc w2 (.cells #[.int .i64 1, .int .i64 1, .slice R 1 rc, .slice O 2 oc, .slice G 2 gc, .slice T 2 tc] 33)))
  have HP0 := hide (HP0.below (below_alloc w2 (.cells #[.int .i64 1, .int .i64 1, .slice R 1 rc, .slice O 2 oc, .slice G 2 gc, .slice T 2 tc] 33)))
  have R2 : Hid (Row (w2.alloc (.cells #[.int .i64 1, .int .i64 1, .slice R 1 rc, .slice O 2 oc, .slice G 2 gc, .slice T 2 tc] 33)) w2.heap.size 33 #[.int .i64 1, .int .i64 1, .slice R 1 rc, .slice O 2 oc, .slice G 2 gc, .slice T 2 tc]) := Row.new _ _ _
  have y0 := (R2.out.cell 0).trans (show _ = some (.int .i64 1) from rfl)
  have y1 := (R2.out.cell 1).trans (show _ = some (.int .i64 1) from rfl)
  have y2 := (R2.out.cell 2).trans (show _ = some (.slice R 1 rc) from rfl)
  have y3 := (R2.out.cell 3).trans (show _ = some (.slice O 2 oc) from rfl)
  have y4 := (R2.out.cell 4).trans (show _ = some (.slice G 2 gc) from rfl)
  have y5 := (R2.out.cell 5).trans (show _ = some (.slice T 2 tc) from rfl)
  go_wp2_with fail
  clear y0 y1 y2 y3 y4 y5 b2
  have C2 : Calls Try.prog 16 #[.agg #[.int .i64 1, .int .i64 1, .slice R 1 rc, .slice O 2 oc, .slice G 2 gc, .slice T 2 tc]] (w2.alloc (.cells #[.int .i64 1, .int .i64 1, .slice R 1 rc, .slice O 2 oc, .slice G 2 gc, .slice T 2 tc] 33)) (fun e w' => ∃ A c B d, e = .returned (.tuple #[.agg #[.slice A 2 c, .slice B 2 d], .int .i64 0]) ∧ OwnN w' (w2.alloc (.cells #[.int .i64 1, .int .i64 1, .slice R 1 rc, .slice O 2 oc, .slice G 2 gc, .slice T 2 tc] 33)).heap.size 47 43 2 f2 (.slice A 2 c) aliveT.acts ∧ OwnN w' (w2.alloc (.cells #[.int .i64 1, .int .i64 1, .slice R 1 rc, .slice O 2 oc, .slice G 2 gc, .slice T 2 tc] 33)).heap.size 30 3 1 f1 (.slice B 2 d) aliveT.gots ∧ Below (w2.alloc (.cells #[.int .i64 1, .int .i64 1, .slice R 1 rc, .slice O 2 oc, .slice G 2 gc, .slice T 2 tc] 33)).heap.size (w2.alloc (.cells #[.int .i64 1, .int .i64 1, .slice R 1 rc, .slice O 2 oc, .slice G 2 gc, .slice T 2 tc] 33)) w') := by
    have h := unpack_any R O G T 1 2 2 2 rc oc gc tc aliveP (w2.alloc (.cells #[.int .i64 1, .int .i64 1, .slice R 1 rc, .slice O 2 oc, .slice G 2 gc, .slice T 2 tc] 33)) HP0.out (by omega) (by omega) (by omega) (by omega)
    rw [alive3] at h
    exact h
  generalize (w2.alloc (.cells #[.int .i64 1, .int .i64 1, .slice R 1 rc, .slice O 2 oc, .slice G 2 gc, .slice T 2 tc] 33)) = w3 at *
  generalize w2.heap.size = p2 at *
  refine C2.mono ?_
  clear C2
  rintro e w4 ⟨A4, c4, B4, d4, rfl, hN4, hM4, hb4⟩
  have R1 := R1.out.below hb4 R1.out.lt
  have HT := HT.out.below hb4
  have HP0 := HP0.out.below hb4
  have R2 := R2.out.below hb4 R2.out.lt
  have b4 := below_both b3.out hb4 b3.out.size
  have HU : TabAt w4 A4 B4 2 2 aliveT := ⟨hN4.nest, hM4.nest⟩
  clear hN4 hM4 hb4 b3
  have b5 : Hid (Below w.heap.size w (w4.alloc (.cells #[.slice A4 2 c4, .slice B4 2 d4] 25))) := b4.alloc b4.size _
  have R1 := hide (R1.alloc (.cells #[.slice A4 2 c4, .slice B4 2 d4] 25))
  have HT := hide (HT.below (below_alloc w4 (.cells #[.slice A4 2 c4, .slice B4 2 d4] 25)))
  have HP0 := hide (HP0.below (below_alloc w4 (.cells #[.slice A4 2 c4, .slice B4 2 d4] 25)))
  have R2 := hide (R2.alloc (.cells #[.slice A4 2 c4, .slice B4 2 d4] 25))
  have HU := hide (HU.below (below_alloc w4 (.cells #[.slice A4 2 c4, .slice B4 2 d4] 25)))
  have R4 : Hid (Row (w4.alloc (.cells #[.slice A4 2 c4, .slice B4 2 d4] 25)) w4.heap.size 25 #[.slice A4 2 c4, .slice B4 2 d4]) := Row.new _ _ _
  go_wp2_with fail
  clear b4
  have C3 : Calls Try.prog 11 #[.agg #[.slice none 0 0, .slice none 0 0]] (w4.alloc (.cells #[.slice A4 2 c4, .slice B4 2 d4] 25)) (fun e w' => ∃ R O G T rc oc gc tc, e = .returned (.tuple #[.agg #[.int .i64 0, .int .i64 0, .slice R 0 rc, .slice O 0 oc, .slice G 0 gc, .slice T 0 tc], .int .i64 1]) ∧
      PkOwn w' (w4.alloc (.cells #[.slice A4 2 c4, .slice B4 2 d4] 25)).heap.size R O G T rc oc gc tc ⟨0, 0, [], [], [], []⟩ ∧ Below (w4.alloc (.cells #[.slice A4 2 c4, .slice B4 2 d4] 25)).heap.size (w4.alloc (.cells #[.slice A4 2 c4, .slice B4 2 d4] 25)) w') := by
    have h := pack_any none none 0 0 0 0 ⟨[], []⟩ (w4.alloc (.cells #[.slice A4 2 c4, .slice B4 2 d4] 25)) (Nest.nil _ _) (Nest.nil _ _) (by omega)
    rw [alive4] at h
    exact h
  generalize (w4.alloc (.cells #[.slice A4 2 c4, .slice B4 2 d4] 25)) = w5 at *
  generalize w4.heap.size = p4 at *
  refine C3.mono ?_
  clear C3
  rintro e w6 ⟨R6, O6, G6, T6, rc6, oc6, gc6, tc6, rfl, hPk6, hb6⟩
  clear hPk6
  have R1 := R1.out.below hb6 R1.out.lt
  have HT := HT.out.below hb6
  have HP0 := HP0.out.below hb6
  have R2 := R2.out.below hb6 R2.out.lt
  have HU := HU.out.below hb6
  have R4 := R4.out.below hb6 R4.out.lt
  have b6 := below_both b5.out hb6 b5.out.size
  clear hb6 b5
  have b7 : Hid (Below w.heap.size w (w6.alloc (.cells #[.int .i64 0, .int .i64 0, .slice R6 0 rc6, .slice O6 0 oc6, .slice G6 0 gc6, .slice T6 0 tc6] 33))) := b6.alloc b6.size _
  have R1 := hide (R1.alloc (.cells #[.int .i64 0, .int .i64 0, .slice R6 0 rc6, .slice O6 0 oc6, .slice G6 0 gc6, .slice T6 0 tc6] 33))
  have HT := hide (HT.below (below_alloc w6 (.cells #[.int .i64 0, .int .i64 0, .slice R6 0 rc6, .slice O6 0 oc6, .slice G6 0 gc6, .slice T6 0 tc6] 33)))
  have HP0 := hide (HP0.below (below_alloc w6 (.cells #[.int .i64 0, .int .i64 0, .slice R6 0 rc6, .slice O6 0 oc6, .slice G6 0 gc6, .slice T6 0 tc6] 33)))
  have R2 := hide (R2.alloc (.cells #[.int .i64 0, .int .i64 0, .slice R6 0 rc6, .slice O6 0 oc6, .slice G6 0 gc6, .slice T6 0 tc6] 33))
  have HU := hide (HU.below (below_alloc w6 (.cells #[.int .i64 0, .int .i64 0, .slice R6 0 rc6, .slice O6 0 oc6, .slice G6 0 gc6, .slice T6 0 tc6] 33)))
  have R4 := hide (R4.alloc (.cells #[.int .i64 0, .int .i64 0, .slice R6 0 rc6, .slice O6 0 oc6, .slice G6 0 gc6, .slice T6 0 tc6] 33))
  have R6z : Hid (Row (w6.alloc (.cells #[.int .i64 0, .int .i64 0, .slice R6 0 rc6, .slice O6 0 oc6, .slice G6 0 gc6, .slice T6 0 tc6] 33)) w6.heap.size 33 #[.int .i64 0, .int .i64 0, .slice R6 0 rc6, .slice O6 0 oc6, .slice G6 0 gc6, .slice T6 0 tc6]) := Row.new _ _ _
  clear R6z
  go_wp2_with fail
  clear b6
  have C4 : Calls Try.prog 16 #[.agg #[.int .i64 0, .int .i64 0, .slice none 0 0, .slice none 0 0, .slice none 0 0, .slice none 0 0]] (w6.alloc (.cells #[.int .i64 0, .int .i64 0, .slice R6 0 rc6, .slice O6 0 oc6, .slice G6 0 gc6, .slice T6 0 tc6] 33)) (fun e w' => ∃ A c B d, e = .returned (.tuple #[.agg #[.slice A 0 c, .slice B 0 d], .int .i64 1]) ∧ OwnN w' (w6.alloc (.cells #[.int .i64 0, .int .i64 0, .slice R6 0 rc6, .slice O6 0 oc6, .slice G6 0 gc6, .slice T6 0 tc6] 33)).heap.size 47 43 2 f2 (.slice A 0 c) (⟨[], []⟩ : Tab).acts ∧ OwnN w' (w6.alloc (.cells #[.int .i64 0, .int .i64 0, .slice R6 0 rc6, .slice O6 0 oc6, .slice G6 0 gc6, .slice T6 0 tc6] 33)).heap.size 30 3 1 f1 (.slice B 0 d) (⟨[], []⟩ : Tab).gots ∧ Below (w6.alloc (.cells #[.int .i64 0, .int .i64 0, .slice R6 0 rc6, .slice O6 0 oc6, .slice G6 0 gc6, .slice T6 0 tc6] 33)).heap.size (w6.alloc (.cells #[.int .i64 0, .int .i64 0, .slice R6 0 rc6, .slice O6 0 oc6, .slice G6 0 gc6, .slice T6 0 tc6] 33)) w') := by
    have h := unpack_any none none none none 0 0 0 0 0 0 0 0 ⟨0, 0, [], [], [], []⟩ (w6.alloc (.cells #[.int .i64 0, .int .i64 0, .slice R6 0 rc6, .slice O6 0 oc6, .slice G6 0 gc6, .slice T6 0 tc6] 33)) ⟨Nest.nil _ _, In.nil _ _, Nest.nil _ _, In.nil _ _⟩ (by omega) (by omega) (by omega) (by omega)
    rw [alive5] at h
    exact h
  generalize (w6.alloc (.cells #[.int .i64 0, .int .i64 0, .slice R6 0 rc6, .slice O6 0 oc6, .slice G6 0 gc6, .slice T6 0 tc6] 33)) = w7 at *
  generalize w6.heap.size = p6 at *
  refine C4.mono ?_
  clear C4
  rintro e w8 ⟨A8, c8, B8, d8, rfl, hN8, hM8, hb8⟩
  clear hN8 hM8
  have R1 := R1.out.below hb8 R1.out.lt
  have HT := HT.out.below hb8
  have HP0 := HP0.out.below hb8
  have R2 := R2.out.below hb8 R2.out.lt
  have HU := HU.out.below hb8
  have R4 := R4.out.below hb8 R4.out.lt
  have b8 := below_both b7.out hb8 b7.out.size
  clear hb8 b7
  have b9 : Hid (Below w.heap.size w (w8.alloc (.cells #[.slice A8 0 c8, .slice B8 0 d8] 25))) := b8.alloc b8.size _
  have R1 := hide (R1.alloc (.cells #[.slice A8 0 c8, .slice B8 0 d8] 25))
  have HT := hide (HT.below (below_alloc w8 (.cells #[.slice A8 0 c8, .slice B8 0 d8] 25)))
  have HP0 := hide (HP0.below (below_alloc w8 (.cells #[.slice A8 0 c8, .slice B8 0 d8] 25)))
  have R2 := hide (R2.alloc (.cells #[.slice A8 0 c8, .slice B8 0 d8] 25))
  have HU := hide (HU.below (below_alloc w8 (.cells #[.slice A8 0 c8, .slice B8 0 d8] 25)))
  have R4 := hide (R4.alloc (.cells #[.slice A8 0 c8, .slice B8 0 d8] 25))
  have R8 : Hid (Row (w8.alloc (.cells #[.slice A8 0 c8, .slice B8 0 d8] 25)) w8.heap.size 25 #[.slice A8 0 c8, .slice B8 0 d8]) := Row.new _ _ _
  clear R8
  have y0 := (R2.out.cell 0).trans (show _ = some (.int .i64 1) from rfl)
  have y1 := (R2.out.cell 1).trans (show _ = some (.int .i64 1) from rfl)
  have y2 := (R2.out.cell 2).trans (show _ = some (.slice R 1 rc) from rfl)
  have y3 := (R2.out.cell 3).trans (show _ = some (.slice O 2 oc) from rfl)
  have y4 := (R2.out.cell 4).trans (show _ = some (.slice G 2 gc) from rfl)
  have y5 := (R2.out.cell 5).trans (show _ = some (.slice T 2 tc) from rfl)
  have t10 := (R1.out.cell 0).trans (show _ = some (.slice (some ⟨q2, 0, none⟩) 2 2) from rfl)
  have t11 := (R1.out.cell 1).trans (show _ = some (.slice (some ⟨q5, 0, none⟩) 2 2) from rfl)
  have t40 := (R4.out.cell 0).trans (show _ = some (.slice A4 2 c4) from rfl)
  have t41 := (R4.out.cell 1).trans (show _ = some (.slice B4 2 d4) from rfl)
  have C5 := same17_any (some ⟨q2, 0, none⟩) (some ⟨q5, 0, none⟩) A4 B4 2 2 2 2 2 2 c4 d4 aliveT aliveT (w8.alloc (.cells #[.slice A8 0 c8, .slice B8 0 d8] 25)) HT.out HU.out (by omega) (by omega) (by omega) (by omega)
  rw [decide_eq_true (show aliveT = aliveT from rfl)] at C5
  go_wp2_with fail
  clear t10 t11 t40 t41 y0 y1 y2 y3 y4 y5 b8
  generalize (w8.alloc (.cells #[.slice A8 0 c8, .slice B8 0 d8] 25)) = w9 at *
  generalize w8.heap.size = p8 at *
  refine C5.mono ?_
  clear C5
  rintro e w10 ⟨rfl, hb10⟩
  clear R1 R4 HT HU
  have R2 := R2.out.below hb10 R2.out.lt
  have HP0 := HP0.out.below hb10
  have b10 := below_both b9.out hb10 b9.out.size
  clear hb10 b9
  have R2 := hide R2
  have HP0 := hide HP0
  have b10 := hide b10
  have y0 := (R2.out.cell 0).trans (show _ = some (.int .i64 1) from rfl)
  have y1 := (R2.out.cell 1).trans (show _ = some (.int .i64 1) from rfl)
  have y2 := (R2.out.cell 2).trans (show _ = some (.slice R 1 rc) from rfl)
  have y3 := (R2.out.cell 3).trans (show _ = some (.slice O 2 oc) from rfl)
  have y4 := (R2.out.cell 4).trans (show _ = some (.slice G 2 gc) from rfl)
  have y5 := (R2.out.cell 5).trans (show _ = some (.slice T 2 tc) from rfl)
  have C := action_any R O G T 1 2 2 2 rc oc gc tc aliveP 1 1 w10 HP0.out (by omega) (by omega) (by omega) (by omega)
  rw [alive6] at C
  go_wp2_with fail
  clear y0 y1 y2 y3 y4 y5
  refine C.mono ?_
  clear C
  rintro e w11 ⟨rfl, hb11⟩
  have R2 := R2.out.below hb11 R2.out.lt
  have HP0 := HP0.out.below hb11
  have b11 := below_both b10.out hb11 b10.out.size
  clear hb11 b10
  have R2 := hide R2
  have HP0 := hide HP0
  have b11 := hide b11
  have y0 := (R2.out.cell 0).trans (show _ = some (.int .i64 1) from rfl)
  have y1 := (R2.out.cell 1).trans (show _ = some (.int .i64 1) from rfl)
  have y2 := (R2.out.cell 2).trans (show _ = some (.slice R 1 rc) from rfl)
  have y3 := (R2.out.cell 3).trans (show _ = some (.slice O 2 oc) from rfl)
  have y4 := (R2.out.cell 4).trans (show _ = some (.slice G 2 gc) from rfl)
  have y5 := (R2.out.cell 5).trans (show _ = some (.slice T 2 tc) from rfl)
  have C := action_any R O G T 1 2 2 2 rc oc gc tc aliveP 1 0 w11 HP0.out (by omega) (by omega) (by omega) (by omega)
  rw [alive7] at C
  go_wp2_with fail
  clear y0 y1 y2 y3 y4 y5
  refine C.mono ?_
  clear C
  rintro e w12 ⟨rfl, hb12⟩
  have R2 := R2.out.below hb12 R2.out.lt
  have HP0 := HP0.out.below hb12
  have b12 := below_both b11.out hb12 b11.out.size
  clear hb12 b11
  have R2 := hide R2
  have HP0 := hide HP0
  have b12 := hide b12
  have hq := eql43 0 0 0 0
  rw [decide_eq_true (show ((0, 0) : Int × Int) = (0, 0) from rfl)] at hq
  have y0 := (R2.out.cell 0).trans (show _ = some (.int .i64 1) from rfl)
  have y1 := (R2.out.cell 1).trans (show _ = some (.int .i64 1) from rfl)
  have y2 := (R2.out.cell 2).trans (show _ = some (.slice R 1 rc) from rfl)
  have y3 := (R2.out.cell 3).trans (show _ = some (.slice O 2 oc) from rfl)
  have y4 := (R2.out.cell 4).trans (show _ = some (.slice G 2 gc) from rfl)
  have y5 := (R2.out.cell 5).trans (show _ = some (.slice T 2 tc) from rfl)
  have C := goto_any R O G T 1 2 2 2 rc oc gc tc aliveP 1 0 w12 HP0.out (by omega) (by omega) (by omega) (by omega)
  rw [alive8] at C
  go_wp2_with fail
  clear y0 y1 y2 y3 y4 y5
  refine C.mono ?_
  clear C
  rintro e w13 ⟨rfl, hb13⟩
  have R2 := R2.out.below hb13 R2.out.lt
  have HP0 := HP0.out.below hb13
  have b13 := below_both b12.out hb13 b12.out.size
  clear hb13 b12
  have R2 := hide R2
  have HP0 := hide HP0
  have b13 := hide b13
  have y0 := (R2.out.cell 0).trans (show _ = some (.int .i64 1) from rfl)
  have y1 := (R2.out.cell 1).trans (show _ = some (.int .i64 1) from rfl)
  have y2 := (R2.out.cell 2).trans (show _ = some (.slice R 1 rc) from rfl)
  have y3 := (R2.out.cell 3).trans (show _ = some (.slice O 2 oc) from rfl)
  have y4 := (R2.out.cell 4).trans (show _ = some (.slice G 2 gc) from rfl)
  have y5 := (R2.out.cell 5).trans (show _ = some (.slice T 2 tc) from rfl)
  have C := goto_any R O G T 1 2 2 2 rc oc gc tc aliveP 0 0 w13 HP0.out (by omega) (by omega) (by omega) (by omega)
  rw [alive9] at C
  go_wp2_with fail
  clear y0 y1 y2 y3 y4 y5
  refine C.mono ?_
  clear C
  rintro e w14 ⟨rfl, hb14⟩
  have R2 := R2.out.below hb14 R2.out.lt
  have HP0 := HP0.out.below hb14
  have b14 := below_both b13.out hb14 b13.out.size
  clear hb14 b13
  have R2 := hide R2
  have HP0 := hide HP0
  have b14 := hide b14
  have y0 := (R2.out.cell 0).trans (show _ = some (.int .i64 1) from rfl)
  have y1 := (R2.out.cell 1).trans (show _ = some (.int .i64 1) from rfl)
  have y2 := (R2.out.cell 2).trans (show _ = some (.slice R 1 rc) from rfl)
  have y3 := (R2.out.cell 3).trans (show _ = some (.slice O 2 oc) from rfl)
  have y4 := (R2.out.cell 4).trans (show _ = some (.slice G 2 gc) from rfl)
  have y5 := (R2.out.cell 5).trans (show _ = some (.slice T 2 tc) from rfl)
  have C := right_any R O G T 1 2 2 2 rc oc gc tc aliveP w14 HP0.out (by omega) (by omega) (by omega) (by omega)
  rw [alive10] at C
  go_wp2_with fail
  clear y0 y1 y2 y3 y4 y5
  refine C.mono ?_
  clear C
  rintro e w15 ⟨rfl, hb15⟩
  have R2 := R2.out.below hb15 R2.out.lt
  have HP0 := HP0.out.below hb15
  have b15 := below_both b14.out hb15 b14.out.size
  clear hb15 b14
  have R2 := hide R2
  have HP0 := hide HP0
  have b15 := hide b15
  have y0 := (R2.out.cell 0).trans (show _ = some (.int .i64 1) from rfl)
  have y1 := (R2.out.cell 1).trans (show _ = some (.int .i64 1) from rfl)
  have y2 := (R2.out.cell 2).trans (show _ = some (.slice R 1 rc) from rfl)
  have y3 := (R2.out.cell 3).trans (show _ = some (.slice O 2 oc) from rfl)
  have y4 := (R2.out.cell 4).trans (show _ = some (.slice G 2 gc) from rfl)
  have y5 := (R2.out.cell 5).trans (show _ = some (.slice T 2 tc) from rfl)
  have C := same_any R O G T R O G T 1 2 2 2 rc oc gc tc 1 2 2 2 rc oc gc tc aliveP aliveP w15 HP0.out HP0.out (by omega) (by omega) (by omega) (by omega) (by omega) (by omega) (by omega) (by omega)
  rw [alive11] at C
  go_wp2_with fail
  clear y0 y1 y2 y3 y4 y5
  refine C.mono ?_
  clear C
  rintro e w16 ⟨rfl, hb16⟩
  have R2 := R2.out.below hb16 R2.out.lt
  have HP0 := HP0.out.below hb16
  have b16 := below_both b15.out hb16 b15.out.size
  clear hb16 b15
  have R2 := hide R2
  have HP0 := hide HP0
  have b16 := hide b16
  have y0 := (R2.out.cell 0).trans (show _ = some (.int .i64 1) from rfl)
  have y1 := (R2.out.cell 1).trans (show _ = some (.int .i64 1) from rfl)
  have y2 := (R2.out.cell 2).trans (show _ = some (.slice R 1 rc) from rfl)
  have y3 := (R2.out.cell 3).trans (show _ = some (.slice O 2 oc) from rfl)
  have y4 := (R2.out.cell 4).trans (show _ = some (.slice G 2 gc) from rfl)
  have y5 := (R2.out.cell 5).trans (show _ = some (.slice T 2 tc) from rfl)
  have C := same_any R O G T none none none none 1 2 2 2 rc oc gc tc 0 0 0 0 0 0 0 0 aliveP ⟨0, 0, [], [], [], []⟩ w16 HP0.out ⟨Nest.nil _ _, In.nil _ _, Nest.nil _ _, In.nil _ _⟩ (by omega) (by omega) (by omega) (by omega) (by omega) (by omega) (by omega) (by omega)
  rw [alive12] at C
  go_wp2_with fail
  clear y0 y1 y2 y3 y4 y5
  refine C.mono ?_
  clear C
  rintro e w17 ⟨rfl, hb17⟩
  have R2 := R2.out.below hb17 R2.out.lt
  have HP0 := HP0.out.below hb17
  have b17 := below_both b16.out hb17 b16.out.size
  clear hb17 b16
  have R2 := hide R2
  have HP0 := hide HP0
  have b17 := hide b17
  go_wp2_with fail
  go_ret
  exact ⟨rfl, b17.out⟩
end Go.Proofs.Ytfldbkioepcghaa
