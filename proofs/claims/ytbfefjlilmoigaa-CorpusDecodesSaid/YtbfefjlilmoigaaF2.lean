/- The fixed fact of layer 29's statements. -/
import Derived.Test.YtbfefjlilmoigaaE5
import Derived.Test.YtbfefjlilmoigaaF1
namespace Go.Proofs.Ytbfefjlilmoigaa
open Go.RowKit
set_option linter.unusedVariables false

theorem OwnC.cases {w : World} {base : Nat} {A : Option Addr} {n c : Nat} {l : List Cas} (h : OwnC w base (.slice A n c) l) : Cases w A l.length l := by
  obtain ⟨us, ⟨hl, h1⟩, h2⟩ := h
  refine ⟨rfl, fun hn => ?_⟩
  rcases h1 with ⟨_, h0⟩ | ⟨g, cap, cur, hv, _, hg, hcap, _, hcs, htake⟩
  · omega
  · injection hv with hA
    subst hA
    refine ⟨g, 0, rfl, fun j x hx => ?_⟩
    obtain ⟨a1, a2, A', c', a3, a4, _⟩ := h2 j x hx
    have key : ∀ i u, us[i]? = some u → w.cell? ⟨g, i, none⟩ = some u := fun i u hu => by
      rw [cell_of_row w g i cur 66 (0, 0) hg]
      rw [← htake, List.getElem?_take] at hu
      split at hu
      · simpa using hu
      · cases hu
    rw [Nat.zero_add]
    exact ⟨A', c', key _ _ a1, key _ _ a2, key _ _ a3, a4⟩

def aliveX : Cas := ⟨2, 300, [0, 1073741824]⟩
theorem encA : encB 1 [] = (frameB (corB 1 []), 0) := by
  unfold encB
  rw [if_pos (by decide), if_neg (by rw [frameB_len]; decide)]
theorem encX : encB 7 [aliveX] = (frameB (corB 7 [aliveX]), 0) := by
  unfold encB
  rw [if_pos (by decide), if_neg (by rw [frameB_len]; decide +kernel)]
theorem decX : decB (frameB (corB 7 [aliveX])) = (7, [aliveX], 0) := decB_enc 7 [aliveX] (by omega) (by decide) (by rw [frameB_len]; decide +kernel)
theorem dec1 : decB [71, 82, 68, 49] = (0, [], 15) := by decide +kernel
theorem enc0 : encB 0 [⟨0, 0, []⟩] = ([], 1) := by decide +kernel
theorem dec2 : decB (frameB [71, 82, 68, 50, 0, 0, 0, 0, 0]) = (0, [], 3) := by
  unfold decB
  rw [if_neg (by rw [frameB_len]; decide), openB_frame]
  decide +kernel
theorem corA : corB 1 [] = [71, 82, 68, 49, 1, 0, 0, 0, 0] := by decide +kernel
theorem lenX : (frameB (corB 7 [aliveX])).length = 23 := by rw [frameB_len]; decide +kernel

set_option maxHeartbeats 1000000 in
set_option maxRecDepth 100000 in
theorem alive29 (w : World) : Calls Try.prog 25 #[] w fun e w' => e = .returned (.bool true) ∧ Below w.heap.size w w' := by
  have kc := fun (w : World) (C : Array Value) (n c : Nat) => Lib.run_convert_bytes_const (P := Try.prog) w 22 5 C n c Try.underlying22 Try.underlying5
  have C1 := enc_any 1 none 0 0 [] w (Cases.nil _ _) (by omega)
  rw [encA] at C1
  go_enter Try.func25, Try.ntmps25
  go_wp2_with fail
  refine C1.mono ?_
  rintro e w1 ⟨v1, rfl, hown1, hbel1⟩
  obtain ⟨A1, c1, hv1, hB1, hc1, hm1⟩ := hown1.form
  dsimp only at hv1 hB1 hc1
  rw [show (frameB (corB 1 [])).length = 13 from rfl] at hv1 hB1 hc1
  subst hv1
  clear C1
  go_wp2_with fail
  have rA : Row (w1.alloc (.cells #[.int .i64 0, .int .i64 1073741824] 3)) w1.heap.size 3 #[.int .i64 0, .int .i64 1073741824] := Row.new _ _ _
  have rB : Row ((w1.alloc (.cells #[.int .i64 0, .int .i64 1073741824] 3)).alloc (.cells #[.int .i64 2, .int .i64 300, .slice (some ⟨w1.heap.size, 0, none⟩) 2 2] 66)) (w1.heap.size + 1) 66 #[.int .i64 2, .int .i64 300, .slice (some ⟨w1.heap.size, 0, none⟩) 2 2] := by
    have := Row.new (w1.alloc (.cells #[.int .i64 0, .int .i64 1073741824] 3)) 66 #[.int .i64 2, .int .i64 300, .slice (some ⟨w1.heap.size, 0, none⟩) 2 2]
    simpa using this
  have rC : Row (((w1.alloc (.cells #[.int .i64 0, .int .i64 1073741824] 3)).alloc (.cells #[.int .i64 2, .int .i64 300, .slice (some ⟨w1.heap.size, 0, none⟩) 2 2] 66)).alloc (.cells #[.int .u32 7, .slice (some ⟨w1.heap.size + 1, 0, none⟩) 1 1] 37)) (w1.heap.size + 1 + 1) 37 #[.int .u32 7, .slice (some ⟨w1.heap.size + 1, 0, none⟩) 1 1] := by
    have := Row.new ((w1.alloc (.cells #[.int .i64 0, .int .i64 1073741824] 3)).alloc (.cells #[.int .i64 2, .int .i64 300, .slice (some ⟨w1.heap.size, 0, none⟩) 2 2] 66)) 37 #[.int .u32 7, .slice (some ⟨w1.heap.size + 1, 0, none⟩) 1 1]
    simpa using this
  have rA := (rA.alloc (.cells #[.int .i64 2, .int .i64 300, .slice (some ⟨w1.heap.size, 0, none⟩) 2 2] 66)).alloc (.cells #[.int .u32 7, .slice (some ⟨w1.heap.size + 1, 0, none⟩) 1 1] 37)
  have rB := rB.alloc (.cells #[.int .u32 7, .slice (some ⟨w1.heap.size + 1, 0, none⟩) 1 1] 37)
  have hb2 : Below w.heap.size w (((w1.alloc (.cells #[.int .i64 0, .int .i64 1073741824] 3)).alloc (.cells #[.int .i64 2, .int .i64 300, .slice (some ⟨w1.heap.size, 0, none⟩) 2 2] 66)).alloc (.cells #[.int .u32 7, .slice (some ⟨w1.heap.size + 1, 0, none⟩) 1 1] 37)) :=
    ((hbel1.alloc hbel1.size _).alloc (by have := hbel1.size; simp; omega) _).alloc (by have := hbel1.size; simp; omega) _
  have hB1 := ((hB1.below (below_alloc _ (.cells #[.int .i64 0, .int .i64 1073741824] 3))).below (below_alloc _ (.cells #[.int .i64 2, .int .i64 300, .slice (some ⟨w1.heap.size, 0, none⟩) 2 2] 66))).below (below_alloc _ (.cells #[.int .u32 7, .slice (some ⟨w1.heap.size + 1, 0, none⟩) 1 1] 37))
  generalize (((w1.alloc (.cells #[.int .i64 0, .int .i64 1073741824] 3)).alloc (.cells #[.int .i64 2, .int .i64 300, .slice (some ⟨w1.heap.size, 0, none⟩) 2 2] 66)).alloc (.cells #[.int .u32 7, .slice (some ⟨w1.heap.size + 1, 0, none⟩) 1 1] 37)) = w2 at *
  generalize w1.heap.size = s1 at *
  have hcX : Cases w2 (some ⟨s1 + 1, 0, none⟩) 1 [aliveX] := by
    refine ⟨rfl, fun _ => ⟨s1 + 1, 0, rfl, fun j x hx => ?_⟩⟩
    match j, hx with
    | 0, hx =>
      obtain rfl := Option.some.inj hx
      exact ⟨some ⟨s1, 0, none⟩, 2, (rB.cell 0).trans rfl, (rB.cell 1).trans rfl, (rB.cell 2).trans rfl, ⟨rfl, fun _ => ⟨s1, 0, rfl, fun j u hu => by rw [Nat.zero_add, rA.cell j]; simpa [aliveX, ints] using hu⟩⟩, by simp [aliveX], by omega⟩
    | j + 1, hx => simp at hx
  have C2 := enc_any 7 (some ⟨s1 + 1, 0, none⟩) 1 1 [aliveX] w2 hcX (by omega)
  rw [encX] at C2
  refine C2.mono ?_
  rintro e w3 ⟨v3, rfl, hown3, hbel3⟩
  obtain ⟨A3, c3, hv3, hB3, hc3, hm3⟩ := hown3.form
  dsimp only at hv3 hB3 hc3
  rw [lenX] at hv3 hB3 hc3
  subst hv3
  have HB1 := hide (hB1.below hbel3)
  have HC := hide (rC.below hbel3 rC.lt)
  have HX := hide (hcX.below hbel3)
  have hb3 := hide (below_both hb2 hbel3 hb2.size)
  clear C2 rA rB rC hb2 hB1 hcX hbel3 hown1 hbel1
  go_wp2_with fail
  have C3 := dec_any A3 23 c3 (frameB (corB 7 [aliveX])) w3 hB3 (by omega) hc3
  unfold DecPost at C3
  rw [decX] at C3
  refine C3.mono ?_
  rintro e w4 ⟨v4, rfl, hoc4, hbel4⟩
  obtain ⟨A4, c4, rfl⟩ := hoc4.slice
  have HX4 := hide hoc4.cases
  have HB1 := hide (HB1.out.below hbel4)
  have HC := hide (HC.out.below hbel4 HC.out.lt)
  have HX := hide (HX.out.below hbel4)
  have hb4 := hide (below_both hb3.out hbel4 hb3.out.size)
  clear C3 hb3 hB3 hoc4 hbel4 hown3
  have r6 : Row (w4.alloc (.cells #[.int .u32 7, .slice A4 1 c4] 37)) w4.heap.size 37 #[.int .u32 7, .slice A4 1 c4] := Row.new _ _ _
  have HX4 := hide (HX4.out.below (below_alloc w4 (.cells #[.int .u32 7, .slice A4 1 c4] 37)))
  have HB1 := hide (HB1.out.below (below_alloc w4 (.cells #[.int .u32 7, .slice A4 1 c4] 37)))
  have HC := hide (HC.out.alloc (.cells #[.int .u32 7, .slice A4 1 c4] 37))
  have HX := hide (HX.out.below (below_alloc w4 (.cells #[.int .u32 7, .slice A4 1 c4] 37)))
  have hb5 : Hid (Below w.heap.size w (w4.alloc (.cells #[.int .u32 7, .slice A4 1 c4] 37))) := hb4.out.alloc hb4.out.size _
  have k5 := kc (w4.alloc (.cells #[.int .u32 7, .slice A4 1 c4] 37)) #[.int .u8 71, .int .u8 82, .int .u8 68, .int .u8 49] 4 4
  have B5 := bytes_const (w4.alloc (.cells #[.int .u32 7, .slice A4 1 c4] 37)) [71, 82, 68, 49] 4 rfl (4, 5)
  rw [World.size_alloc] at k5 B5
  have C5 := dec_any (some ⟨w4.heap.size + 1, 0, none⟩) 4 4 [71, 82, 68, 49] _ B5 (by omega) (by omega)
  unfold DecPost at C5
  rw [dec1] at C5
  go_wp2_with fail
  clear k5 B5
  refine C5.mono ?_
  rintro e w6 ⟨v6, rfl, hoc6, hbel6⟩
  clear C5
  have hbel6 : Below (w4.alloc (.cells #[.int .u32 7, .slice A4 1 c4] 37)).heap.size (w4.alloc (.cells #[.int .u32 7, .slice A4 1 c4] 37)) w6 := below_both (below_alloc _ _) hbel6 (by simp)
  have hlt5 : w4.heap.size < (w4.alloc (.cells #[.int .u32 7, .slice A4 1 c4] 37)).heap.size := by simp
  generalize w4.alloc (.cells #[.int .u32 7, .slice A4 1 c4] 37) = w5 at *
  generalize w4.heap.size = s4 at *
  have HX4 := hide (HX4.out.below hbel6)
  have HB1 := hide (HB1.out.below hbel6)
  have HC := hide (HC.out.below hbel6 HC.out.lt)
  have HX := hide (HX.out.below hbel6)
  have HR6 := hide (r6.below hbel6 r6.lt)
  have hb6 := hide (below_both hb5.out hbel6 hb5.out.size)
  obtain ⟨A6, c6, rfl⟩ := hoc6.slice
  clear hb5 r6 hbel6 hoc6 hlt5 hb4
  go_wp2_with fail
  have hbel7 : Below w6.heap.size w6 ((w6.alloc (.cells #[.int .u32 0, .slice A6 0 c6] 37)).alloc (.cells #[.int .i64 0, .int .i64 0, .slice none 0 0] 66)) := ((Below.refl _ _).alloc (Nat.le_refl _) _).alloc (by simp) _
  have r7 : Row ((w6.alloc (.cells #[.int .u32 0, .slice A6 0 c6] 37)).alloc (.cells #[.int .i64 0, .int .i64 0, .slice none 0 0] 66)) (w6.heap.size + 1) 66 #[.int .i64 0, .int .i64 0, .slice none 0 0] := by
    have := Row.new (w6.alloc (.cells #[.int .u32 0, .slice A6 0 c6] 37)) 66 #[.int .i64 0, .int .i64 0, .slice none 0 0]
    simpa using this
  have HX4 := hide (HX4.out.below hbel7)
  have HB1 := hide (HB1.out.below hbel7)
  have HC := hide (HC.out.below hbel7 HC.out.lt)
  have HX := hide (HX.out.below hbel7)
  have HR6 := hide (HR6.out.below hbel7 HR6.out.lt)
  have hb7 := hide (below_both hb6.out hbel7 hb6.out.size)
  generalize (w6.alloc (.cells #[.int .u32 0, .slice A6 0 c6] 37)).alloc (.cells #[.int .i64 0, .int .i64 0, .slice none 0 0] 66) = w7 at *
  have hc0 : Cases w7 (some ⟨w6.heap.size + 1, 0, none⟩) 1 [⟨0, 0, []⟩] := by
    refine ⟨rfl, fun _ => ⟨w6.heap.size + 1, 0, rfl, fun j x hx => ?_⟩⟩
    match j, hx with
    | 0, hx =>
      obtain rfl := Option.some.inj hx
      exact ⟨none, 0, (r7.cell 0).trans rfl, (r7.cell 1).trans rfl, (r7.cell 2).trans rfl, Elems.nil _ _, Nat.le_refl _, by omega⟩
    | j + 1, hx => simp at hx
  have C7 := enc_any 0 (some ⟨w6.heap.size + 1, 0, none⟩) 1 1 [⟨0, 0, []⟩] w7 hc0 (by omega)
  rw [enc0] at C7
  clear hbel7 r7 hc0
  refine C7.mono ?_
  rintro e w8 ⟨v8, rfl, hown8, hbel8⟩
  obtain ⟨A8, c8, rfl, _⟩ := hown8.form
  have HX4 := hide (HX4.out.below hbel8)
  have HB1 := hide (HB1.out.below hbel8)
  have HC := hide (HC.out.below hbel8 HC.out.lt)
  have HX := hide (HX.out.below hbel8)
  have HR6 := hide (HR6.out.below hbel8 HR6.out.lt)
  have hb8 := hide (below_both hb7.out hbel8 hb7.out.size)
  clear C7 hbel8 hown8
  have C9 := rframe_any (some ⟨w8.heap.size, 0, none⟩) 9 9 [71, 82, 68, 50, 0, 0, 0, 0, 0] _ (bytes_const w8 [71, 82, 68, 50, 0, 0, 0, 0, 0] 9 rfl (9, 10)) (by omega)
  go_wp2_with fail
  refine C9.mono ?_
  rintro e w9 ⟨v9, rfl, hown9, hbel9⟩
  obtain ⟨A9, c9, hv9, hB9, hc9, hm9⟩ := hown9.form
  rw [show (frameB [71, 82, 68, 50, 0, 0, 0, 0, 0]).length = 13 from rfl] at hv9 hB9 hc9
  subst hv9
  have hbel9 : Below w8.heap.size w8 w9 := below_both (below_alloc _ _) hbel9 (by simp)
  have HX4 := hide (HX4.out.below hbel9)
  have HB1 := hide (HB1.out.below hbel9)
  have HC := hide (HC.out.below hbel9 HC.out.lt)
  have HX := hide (HX.out.below hbel9)
  have HR6 := hide (HR6.out.below hbel9 HR6.out.lt)
  have hb9 := hide (below_both hb8.out hbel9 hb8.out.size)
  clear C9 hbel9 hown9
  have C10 := dec_any A9 13 c9 (frameB [71, 82, 68, 50, 0, 0, 0, 0, 0]) w9 hB9 (by omega) hc9
  unfold DecPost at C10
  rw [dec2] at C10
  go_wp2_with fail
  refine C10.mono ?_
  rintro e w10 ⟨v10, rfl, hoc10, hbel10⟩
  obtain ⟨A10, c10, rfl⟩ := hoc10.slice
  have hbel10 : Below w9.heap.size w9 (w10.alloc (.cells #[.int .u32 0, .slice A10 0 c10] 37)) := hbel10.alloc hbel10.size _
  have HX4 := hide (HX4.out.below hbel10)
  have HB1 := hide (HB1.out.below hbel10)
  have HC := hide (HC.out.below hbel10 HC.out.lt)
  have HX := hide (HX.out.below hbel10)
  have HR6 := hide (HR6.out.below hbel10 HR6.out.lt)
  have hb10 := hide (below_both hb9.out hbel10 hb9.out.size)
  clear C10 hbel10 hoc10 hB9 hb9 hb8 hb7 hb6 hB1
  go_wp2_with fail
  generalize w10.alloc (.cells #[.int .u32 0, .slice A10 0 c10] 37) = w11 at *
  rw [corA] at HB1
  have F1 : ∀ W, Ext w11 W → Sem.run Try.prog (Go.convert 22 9 (.slice A1 13 c1)) W = .ok (.string ⟨(frameB [71, 82, 68, 49, 1, 0, 0, 0, 0]).toArray⟩) W := fun W hW => (HB1.out.below hW).convert c1
  have X0 : ∀ W, Ext w11 W → W.cell? ⟨s4, 0, none⟩ = some (.int .u32 7) := fun W hW => (hW.cell HR6.out.lt).trans ((HR6.out.cell 0).trans rfl)
  have X1 : ∀ W, Ext w11 W → W.cell? ⟨s4, 1, none⟩ = some (.slice A4 1 c4) := fun W hW => (hW.cell HR6.out.lt).trans ((HR6.out.cell 1).trans rfl)
  have Y0 : ∀ W, Ext w11 W → W.cell? ⟨s1 + 1 + 1, 0, none⟩ = some (.int .u32 7) := fun W hW => (hW.cell HC.out.lt).trans ((HC.out.cell 0).trans rfl)
  have Y1 : ∀ W, Ext w11 W → W.cell? ⟨s1 + 1 + 1, 1, none⟩ = some (.slice (some ⟨s1 + 1, 0, none⟩) 1 1) := fun W hW => (hW.cell HC.out.lt).trans ((HC.out.cell 1).trans rfl)
  clear HB1 HC HR6 hc1 hm1 hc9 hm9
  generalize hfb : frameB [71, 82, 68, 49, 1, 0, 0, 0, 0] = fb at *
  have hfb' := hide hfb
  have hb11 := hide hb10.out
  have HX11 := hide HX.out
  have HX411 := hide HX4.out
  clear hfb rA rB HX HX4 HB1 HC HR6 hb10 hbel10 hbel9 hbel6
  refine wp_region_seq [(0, false), (1, false), (2, false), (3, false), (4, false), (5, false), (6, false), (7, false), (8, false), (9, false), (10, false), (11, false), (12, false), (13, false), (14, false), (15, false), (16, false), (17, false), (18, false), (19, false), (20, false), (21, false), (22, false), (23, false), (24, false), (25, true), (26, true), (27, true), (28, false), (29, false), (30, false), (31, false), (32, false), (33, false), (34, true), (35, false), (36, false), (37, false), (38, false), (39, true), (40, false), (41, false), (42, false), (43, false), (44, true), (45, false), (46, false), (47, false), (48, false), (49, true), (50, false), (51, false)]
    (by kernel_rfl) (by kernel_rfl) (by kernel_rfl) rfl (by kernel_rfl) (fun _ _ d _ _ h => by cases d <;> exact h) ?_
  simp only [List.map_cons, List.map_nil, List.getElem?_cons_succ, List.getElem?_cons_zero, Option.getD_some]
  iterate 25 (refine wpSeq_take rfl rfl (fun W hW => (by have f1 := F1 W hW; go_simp; with_reducible rfl)) ?_; simp only [List.setIfInBounds_toArray, List.set_cons_zero, List.set_cons_succ])
  refine wpSeq_alone rfl (fun K hK => ?_)
  go_wp2_with fail
  refine hK _ _ w11.drew (Ext.drew w11) (below_alloc w11.drew _) ?_
  clear hK K
  have k12 : (convert 22 22 (.slice (some ⟨w11.heap.size, 0, none⟩) 9 9)).run Try.prog (w11.alloc (.cells #[.int .u8 71, .int .u8 82, .int .u8 68, .int .u8 49, .int .u8 1, .int .u8 0, .int .u8 0, .int .u8 0, .int .u8 0] 5)).drew = .ok (.slice (some ⟨w11.heap.size, 0, none⟩) 9 9) (w11.alloc (.cells #[.int .u8 71, .int .u8 82, .int .u8 68, .int .u8 49, .int .u8 1, .int .u8 0, .int .u8 0, .int .u8 0, .int .u8 0] 5 (9, 10))).drew := kc w11.drew #[.int .u8 71, .int .u8 82, .int .u8 68, .int .u8 49, .int .u8 1, .int .u8 0, .int .u8 0, .int .u8 0, .int .u8 0] 9 9
  refine wpSeq_alone rfl (fun K hK => ?_)
  go_wp2_with fail
  clear k12
  have B12 : Bytes (w11.alloc (.cells #[.int .u8 71, .int .u8 82, .int .u8 68, .int .u8 49, .int .u8 1, .int .u8 0, .int .u8 0, .int .u8 0, .int .u8 0] 5 (9, 10))).drew (some ⟨w11.heap.size, 0, none⟩) 9 [71, 82, 68, 49, 1, 0, 0, 0, 0] := bytes_const w11.drew [71, 82, 68, 49, 1, 0, 0, 0, 0] 9 rfl (9, 10)
  have hx12 : Ext w11 (w11.alloc (.cells #[.int .u8 71, .int .u8 82, .int .u8 68, .int .u8 49, .int .u8 1, .int .u8 0, .int .u8 0, .int .u8 0, .int .u8 0] 5 (9, 10))).drew := (below_alloc w11 _).drew
  refine hK _ _ (w11.alloc (.cells #[.int .u8 71, .int .u8 82, .int .u8 68, .int .u8 49, .int .u8 1, .int .u8 0, .int .u8 0, .int .u8 0, .int .u8 0] 5 (9, 10))).drew (below_alloc w11.drew (.cells #[.int .u8 71, .int .u8 82, .int .u8 68, .int .u8 49, .int .u8 1, .int .u8 0, .int .u8 0, .int .u8 0, .int .u8 0] 5 (9, 10))) (Ext.refl _) ?_
  clear hK K
  generalize hs11 : w11.heap.size = s11 at *
  generalize (w11.alloc (.cells #[.int .u8 71, .int .u8 82, .int .u8 68, .int .u8 49, .int .u8 1, .int .u8 0, .int .u8 0, .int .u8 0, .int .u8 0] 5 (9, 10))).drew = w12 at *
  refine wpSeq_alone rfl (fun K hK => ?_)
  go_wp2_with fail
  refine (rframe_any _ 9 9 _ w12 B12 (by omega)).mono ?_
  rintro e w13 ⟨v13, rfl, hown13, hbel13⟩
  obtain ⟨A13, c13, hv13, hB13, hc13, hm13⟩ := hown13.form
  rw [show (frameB [71, 82, 68, 49, 1, 0, 0, 0, 0]).length = 13 from rfl] at hv13 hB13
  subst hv13
  rw [hfb'.out] at hB13
  have hx13 : Ext w11 w13 := hx12.trans hbel13
  refine hK _ _ w13 hbel13 (Ext.refl _) ?_
  clear hK K
  have F13 : ∀ W, Ext w13 W → Sem.run Try.prog (Go.convert 22 9 (.slice A13 13 c13)) W = .ok (.string ⟨fb.toArray⟩) W := fun W hW => (hB13.below hW).convert c13
  have HXa := hide (HX11.out.below hx13)
  have HXb := hide (HX411.out.below hx13)
  have hb13 := hide (below_both hb11.out hx13 hb11.out.size)
  clear hown13 hbel13 B12 hc13 hm13 hB13 F1 hfb'
  iterate 1 (refine wpSeq_take rfl rfl (fun W hW => (by have f := F13 W hW; go_simp; with_reducible rfl)) ?_; simp only [List.setIfInBounds_toArray, List.set_cons_zero, List.set_cons_succ])
  clear F13
  iterate 5 (refine wpSeq_take rfl rfl (fun W hW => (by have x0 := X0 W (hx13.trans hW); have x1 := X1 W (hx13.trans hW); have y0 := Y0 W (hx13.trans hW); have y1 := Y1 W (hx13.trans hW); go_simp; with_reducible rfl)) ?_; simp only [List.setIfInBounds_toArray, List.set_cons_zero, List.set_cons_succ])
  refine wpSeq_alone rfl (fun K hK => ?_)
  go_wp2_with fail
  have C14 := rsame_any 7 7 A4 (some ⟨s1 + 1, 0, none⟩) 1 1 c4 1 [aliveX] [aliveX] w13 HXb.out HXa.out (by omega) (by omega)
  rw [show sameC 7 7 [aliveX] [aliveX] = true by decide] at C14
  refine C14.mono ?_
  rintro e w14 ⟨rfl, hbel14⟩
  have hx14 : Ext w11 w14 := hx13.trans hbel14
  refine hK _ _ w14 hbel14 (Ext.refl _) ?_
  clear hK K C14
  have HXa := hide (HXa.out.below hbel14)
  have HXb := hide (HXb.out.below hbel14)
  have hb14 := hide (below_both hb13.out hbel14 hb13.out.size)
  clear hbel14
  iterate 4 (refine wpSeq_take rfl rfl (fun W hW => (by have x0 := X0 W (hx14.trans hW); have x1 := X1 W (hx14.trans hW); have y0 := Y0 W (hx14.trans hW); have y1 := Y1 W (hx14.trans hW); go_simp; with_reducible rfl)) ?_; simp only [List.setIfInBounds_toArray, List.set_cons_zero, List.set_cons_succ])
  refine wpSeq_alone rfl (fun K hK => ?_)
  go_wp2_with fail
  have C15 := same_any 7 7 A4 (some ⟨s1 + 1, 0, none⟩) 1 1 c4 1 [aliveX] [aliveX] w14 HXb.out HXa.out (by omega) (by omega)
  rw [show sameC 7 7 [aliveX] [aliveX] = true by decide] at C15
  refine C15.mono ?_
  rintro e w15 ⟨rfl, hbel15⟩
  have hx15 : Ext w11 w15 := hx14.trans hbel15
  refine hK _ _ w15 hbel15 (Ext.refl _) ?_
  clear hK K C15
  have HXa := hide (HXa.out.below hbel15)
  have HXb := hide (HXb.out.below hbel15)
  have hb15 := hide (below_both hb14.out hbel15 hb14.out.size)
  clear hbel15
  iterate 4 (refine wpSeq_take rfl rfl (fun W hW => (by have x0 := X0 W (hx15.trans hW); have x1 := X1 W (hx15.trans hW); have y0 := Y0 W (hx15.trans hW); have y1 := Y1 W (hx15.trans hW); go_simp; with_reducible rfl)) ?_; simp only [List.setIfInBounds_toArray, List.set_cons_zero, List.set_cons_succ])
  refine wpSeq_alone rfl (fun K hK => ?_)
  go_wp2_with fail
  have C16 := same_any 7 0 A4 none 1 0 c4 0 [aliveX] [] w15 HXb.out (Cases.nil _ _) (by omega) (by omega)
  rw [show sameC 7 0 [aliveX] [] = false by decide] at C16
  refine C16.mono ?_
  rintro e w16 ⟨rfl, hbel16⟩
  have hx16 : Ext w11 w16 := hx15.trans hbel16
  refine hK _ _ w16 hbel16 (Ext.refl _) ?_
  clear hK K C16
  have HXa := hide (HXa.out.below hbel16)
  have hb16 := hide (below_both hb15.out hbel16 hb15.out.size)
  clear hbel16
  iterate 4 (refine wpSeq_take rfl rfl (fun W hW => (by have x0 := X0 W (hx16.trans hW); have x1 := X1 W (hx16.trans hW); have y0 := Y0 W (hx16.trans hW); have y1 := Y1 W (hx16.trans hW); go_simp; with_reducible rfl)) ?_; simp only [List.setIfInBounds_toArray, List.set_cons_zero, List.set_cons_succ])
  refine wpSeq_alone rfl (fun K hK => ?_)
  go_wp2_with fail
  have C17 := right_any 7 (some ⟨s1 + 1, 0, none⟩) 1 1 [aliveX] w16 HXa.out
  rw [show rightC [aliveX] = true by decide] at C17
  refine C17.mono ?_
  rintro e w17 ⟨rfl, hbel17⟩
  refine hK _ _ w17 hbel17 (Ext.refl _) ?_
  clear hK K C17
  have hb17 := hide (below_both hb16.out hbel17 hb16.out.size)
  clear hbel17
  iterate 2 (refine wpSeq_take rfl rfl (fun W hW => (by go_simp; with_reducible rfl)) ?_; simp only [List.setIfInBounds_toArray, List.set_cons_zero, List.set_cons_succ])
  refine wpSeq_nil ?_
  go_wp2_with fail
  go_ret
  exact ⟨rfl, hb17.out⟩
end Go.Proofs.Ytbfefjlilmoigaa
