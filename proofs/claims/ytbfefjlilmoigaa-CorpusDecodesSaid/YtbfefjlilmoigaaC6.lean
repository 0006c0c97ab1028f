/- Walks over gerundref29: encode. -/
import Derived.Test.YtbfefjlilmoigaaC5
namespace Go.Proofs.Ytbfefjlilmoigaa
open Go.RowKit
set_option linter.unusedVariables false

theorem u8s_head (g : Nat) (h : g < 4294967296) : u8s (headB g) = [.int .u8 71, .int .u8 82, .int .u8 68, .int .u8 49, .int .u8 ((g : Int) % 256), .int .u8 ((g : Int) / 256 % 256), .int .u8 ((g : Int) / 65536 % 256), .int .u8 ((g : Int) / 16777216)] := by
  unfold headB
  rw [u8s_append, u8s_leb g h]
  rfl
theorem corB_len {g : Nat} {l : List Cas} {j : Nat} : (headB g ++ (Code.putN l.length ++ (l.take j).flatMap casB)).length ≤ (corB g l).length := by
  unfold corB
  have : (l.flatMap casB).length = ((l.take j).flatMap casB).length + ((l.drop j).flatMap casB).length := by
    rw [← List.length_append, ← List.flatMap_append, List.take_append_drop]
  simp only [List.length_append]
  omega

set_option maxHeartbeats 1000000 in
set_option maxRecDepth 100000 in
theorem renc_any (g : Nat) (A : Option Addr) (n c : Nat) (l : List Cas) (w : World) (hl : Cases w A n l) (hg : g < 4294967296) :
    Calls Try.prog 41 #[.agg #[.int .u32 (g : Int), .slice A n c]] w (EncPost w (encB g l)) := by
  have HL := hide (hl.below (below_alloc w (.cells #[.int .u32 (g : Int), .slice A n c] 37)))
  have hlen := hide hl.1
  clear hl
  have hrow : Row (w.alloc (.cells #[.int .u32 (g : Int), .slice A n c] 37)) w.heap.size 37 #[.int .u32 (g : Int), .slice A n c] := Row.new _ _ _
  have C1 := rright_any g A n c l _ HL.out
  generalize hw1 : w.alloc (.cells #[.int .u32 (g : Int), .slice A n c] 37) = w1 at HL hrow C1
  have hb1 : Hid (Below w.heap.size w w1) := by rw [← hw1]; exact below_alloc _ _
  have c0 : w1.cell? ⟨w.heap.size, 0, none⟩ = some (.int .u32 (g : Int)) := (hrow.cell 0).trans rfl
  have c1 : w1.cell? ⟨w.heap.size, 1, none⟩ = some (.slice A n c) := (hrow.cell 1).trans rfl
  have hin : Hid (w.heap.size < w1.heap.size) := hrow.lt
  clear hrow
  have hc0 := hide c0
  have hc1 := hide c1
  cases hr : rightC l with
  | false =>
    have hres : Hid (encB g l = ([], 1)) := by show _ = _; unfold encB; rw [hr]; rfl
    rw [hr] at C1
    clear hr
    go_enter Try.func41, Try.ntmps41
    go_wp2_with fail
    refine C1.mono ?_
    rintro e w2 ⟨rfl, hbel⟩
    go_wp2_with fail
    go_ret2
    unfold EncPost
    rw [hres.out]
    exact ⟨.slice none 0 0, rfl, Own.nil_ _ _, below_both hb1.out hbel hb1.out.size⟩
  | true =>
    rw [hr] at C1
    have hn : n ≤ 2000 := by unfold rightC at hr; simp at hr; have := hlen.out; omega
    have hres := hide hr
    clear hr
    go_enter Try.func41, Try.ntmps41
    go_wp2_with fail
    refine C1.mono ?_
    rintro e w2 ⟨rfl, hbel⟩
    clear C1
    have c2 : w2.cell? ⟨w.heap.size, 0, none⟩ = some (.int .u32 (g : Int)) := (hbel.cell hin.out).trans hc0.out
    clear c0 c1
    have hs1 := hb1.out.size
    have hb2 : Hid (Below w.heap.size w w2) := below_both hb1.out hbel hb1.out.size
    have hbel' := hide hbel
    have hs2 := hbel.size
    have c1 : w2.cell? ⟨w.heap.size, 1, none⟩ = some (.slice A n c) := (hbel.cell hin.out).trans hc1.out
    clear hbel
    have hHB : Hid (Bytes (w2.alloc (.cells #[.int .u8 71, .int .u8 82, .int .u8 68, .int .u8 49, .int .u8 ((g : Int) % 256), .int .u8 ((g : Int) / 256 % 256), .int .u8 ((g : Int) / 65536 % 256), .int .u8 ((g : Int) / 16777216)] 5)) (some ⟨w2.heap.size, 0, none⟩) 8 (headB g)) := by
      show Elems _ _ _ _
      rw [u8s_head g hg]
      exact Elems.new w2 [.int .u8 71, .int .u8 82, .int .u8 68, .int .u8 49, .int .u8 ((g : Int) % 256), .int .u8 ((g : Int) / 256 % 256), .int .u8 ((g : Int) / 65536 % 256), .int .u8 ((g : Int) / 16777216)] 5 8 rfl
    have hbr : Hid (Below w1.heap.size w1 (w2.alloc (.cells #[.int .u8 71, .int .u8 82, .int .u8 68, .int .u8 49, .int .u8 ((g : Int) % 256), .int .u8 ((g : Int) / 256 % 256), .int .u8 ((g : Int) / 65536 % 256), .int .u8 ((g : Int) / 16777216)] 5))) := below_both hbel'.out (below_alloc _ _) hbel'.out.size
    have c18 : (w2.alloc (.cells #[.int .u8 71, .int .u8 82, .int .u8 68, .int .u8 49, .int .u8 ((g : Int) % 256), .int .u8 ((g : Int) / 256 % 256), .int .u8 ((g : Int) / 65536 % 256), .int .u8 ((g : Int) / 16777216)] 5)).cell? ⟨w.heap.size, 1, none⟩ = some (.slice A n c) := (hbr.out.cell hin.out).trans hc1.out
    clear c1
    go_wp2_with fail
    clear c18 c2
    generalize (w2.alloc (.cells #[.int .u8 71, .int .u8 82, .int .u8 68, .int .u8 49, .int .u8 ((g : Int) % 256), .int .u8 ((g : Int) / 256 % 256), .int .u8 ((g : Int) / 65536 % 256), .int .u8 ((g : Int) / 16777216)] 5)) = wr at *
    refine (rput_any (some ⟨w2.heap.size, 0, none⟩) 8 8 (headB g) n _ hHB.out (by omega) (by omega)).mono ?_
    rintro e w5 ⟨v5, rfl, hown5, hbel5⟩
    have hb5 : Hid (Below w1.heap.size w1 w5) := below_both hbr.out hbel5 hbr.out.size
    have ho5 := hide (own_mono hown5 hbr.out.size)
    have c5 : w5.cell? ⟨w.heap.size, 1, none⟩ = some (.slice A n c) := (hb5.out.cell hin.out).trans hc1.out
    clear hown5 hbel5
    go_wp2_with fail
    clear c5
    go_loopw [5, 6, 7, 8] (fun v i _ _ wr => ∃ j : Nat, j ≤ n ∧ i = .int .i64 j ∧ Hid (Own wr w1.heap.size v (headB g ++ (Code.putN n ++ (l.take j).flatMap casB))) ∧ Hid (Below w1.heap.size w1 wr)) (fun _ i _ _ _ => n - (intOf i).toNat)
    case atStart => exact ⟨0, by omega, rfl, by have := ho5.out; rw [List.take_zero, List.flatMap_nil, List.append_nil]; exact this, hb5.out⟩
    case round =>
      obtain ⟨j, hj, rfl, hst, hbr⟩ := hrel
      have c1 : wr.cell? ⟨w.heap.size, 1, none⟩ = some (.slice A n c) := (hbr.out.cell hin.out).trans hc1.out
      by_cases hlt : j < n
      · have hlt' : decide ((j : Int) < (n : Int)) = true := by simp; omega
        obtain ⟨b, o, x, hA, hx, hc⟩ := (HL.out.below hbr.out).at_ hlt
        subst hA
        obtain ⟨A', c', k1, k2, k3, k4⟩ := hc
        obtain ⟨q1, q2, q3, q4, q5, q6⟩ := right_ok hres.out hx
        obtain ⟨xk, xn, xw⟩ := x
        dsimp only at k1 k2 k3 k4 q1 q2 q3 q4 q5 q6
        obtain ⟨kk, rfl⟩ := Int.eq_ofNat_of_zero_le (show 0 ≤ xk by omega)
        obtain ⟨nn, rfl⟩ := Int.eq_ofNat_of_zero_le q3
        have hkk : kk < 4294967296 := by omega
        have hnn : nn < 4294967296 := by omega
        have hx' := hide hx
        have hq6 := hide q6
        clear q1 q2 q3 q4 q6 hx
        have hr6 : Row (wr.alloc (.cells #[.int .i64 (kk : Int), .int .i64 (nn : Int), .slice A' xw.length c'] 66)) wr.heap.size 66 #[.int .i64 (kk : Int), .int .i64 (nn : Int), .slice A' xw.length c'] := Row.new _ _ _
        have hbr6 : Hid (Below w1.heap.size w1 (wr.alloc (.cells #[.int .i64 (kk : Int), .int .i64 (nn : Int), .slice A' xw.length c'] 66))) := below_both hbr.out (below_alloc _ _) hbr.out.size
        have hst6 := hide (hst.out.below (below_alloc wr (.cells #[.int .i64 (kk : Int), .int .i64 (nn : Int), .slice A' xw.length c'] 66)))
        have hw6 := hide (Elems.below k4.1 (below_alloc wr (.cells #[.int .i64 (kk : Int), .int .i64 (nn : Int), .slice A' xw.length c'] 66)))
        have E0 : ∀ W, Ext (wr.alloc (.cells #[.int .i64 (kk : Int), .int .i64 (nn : Int), .slice A' xw.length c'] 66)) W → W.cell? ⟨wr.heap.size, 0, none⟩ = some (.int .i64 (kk : Int)) := fun W hW => (hW.cell hr6.lt).trans ((hr6.cell 0).trans rfl)
        have E1 : ∀ W, Ext (wr.alloc (.cells #[.int .i64 (kk : Int), .int .i64 (nn : Int), .slice A' xw.length c'] 66)) W → W.cell? ⟨wr.heap.size, 1, none⟩ = some (.int .i64 (nn : Int)) := fun W hW => (hW.cell hr6.lt).trans ((hr6.cell 1).trans rfl)
        have E2 : ∀ W, Ext (wr.alloc (.cells #[.int .i64 (kk : Int), .int .i64 (nn : Int), .slice A' xw.length c'] 66)) W → W.cell? ⟨wr.heap.size, 2, none⟩ = some (.slice A' xw.length c') := fun W hW => (hW.cell hr6.lt).trans ((hr6.cell 2).trans rfl)
        have hsz6 := hr6.lt
        go_wp2_with fail
        clear k1 k2 k3 k4 hr6 c1
        generalize hgp : wr.heap.size = p8 at *
        generalize wr.alloc (.cells #[.int .i64 (kk : Int), .int .i64 (nn : Int), .slice A' xw.length c'] 66) = w6 at *
        refine wp_region_seq [(0, false), (1, false), (2, false), (4, false), (5, false), (6, false), (3, true), (7, true), (8, false)]
          (by kernel_rfl) (by kernel_rfl) (by kernel_rfl) rfl (by kernel_rfl) (fun _ _ d _ _ h => by cases d <;> exact h) ?_
        simp only [List.map_cons, List.map_nil, List.getElem?_cons_succ, List.getElem?_cons_zero, Option.getD_some]
        iterate 6 (refine wpSeq_take rfl rfl (fun W hW => (by have e0 := E0 W hW; have e1 := E1 W hW; go_simp; with_reducible rfl)) ?_; simp only [List.setIfInBounds_toArray, List.set_cons_zero, List.set_cons_succ])
        refine wpSeq_alone rfl (fun K hK => ?_)
        go_wp2_with fail
        refine (rput_any none 0 0 [] kk _ (Elems.nil _ _) (by omega) hkk).mono ?_
        rintro e w7 ⟨v7, rfl, hown7, hbel7⟩
        obtain ⟨A7, L7, c7, hv7, hL7, hB7, hcc7⟩ := hown7.form2
        subst hv7
        have hx7 : Ext w6 w7 := below_both (Ext.drew w6) hbel7 (Nat.le_refl _)
        have hL75 : L7 ≤ 5 := by have h1 := hL7.out; have h2 := putN_len kk; rw [List.nil_append] at h1; omega
        have HB7 := hide hB7
        refine hK _ _ w7 hx7 (Ext.refl w7) ?_
        clear hK K hcc7 hB7 hown7 hbel7
        refine wpSeq_alone rfl (fun K hK => ?_)
        go_wp2_with fail
        refine (rput_any A7 L7 c7 ([] ++ Code.putN kk) nn _ HB7.out (by omega) hnn).mono ?_
        rintro e w8 ⟨v8, rfl, hown8, hbel8⟩
        obtain ⟨A8, L8, c8, hv8, hL8, hB8, hcc8⟩ := hown8.form2
        subst hv8
        have hx8 : Ext w6 w8 := hx7.trans hbel8
        have hL810 : L8 ≤ 10 := by have h1 := hL8.out; have h2 := putN_len kk; have h3 := putN_len nn; rw [List.nil_append, List.length_append] at h1; omega
        have HB8 := hide hB8
        refine hK _ _ w8 hbel8 (Ext.refl w8) ?_
        clear hK K hcc8 hB8 hown8 hbel8
        iterate 1 (refine wpSeq_take rfl rfl (fun W hW => (by go_simp; with_reducible rfl)) ?_; simp only [List.setIfInBounds_toArray, List.set_cons_zero, List.set_cons_succ])
        refine wpSeq_nil ?_
        have e2 := E2 w8 hx8
        go_wp2_with fail
        have C35 := rputl_any A8 A' L8 c8 xw.length c' _ xw w8 HB8.out (Elems.below hw6.out hx8) (by omega) (by omega) (okL_in64 hq6.out)
        unfold PutPost at C35
        rw [hq6.out] at C35
        simp only [if_true] at C35
        refine C35.mono ?_
        clear C35
        rintro e w9 ⟨v9, rfl, hown9, hbel9⟩
        have hx9 : Ext w6 w9 := below_both hx8 hbel9 hx8.size
        obtain ⟨A9, L9, c9, hv9, hL9, hB9, hcc9⟩ := hown9.form2
        subst hv9
        have hL92 : L9 ≤ 2000 := by have h1 := hL9.out; have h2 := listB_len xw; have h3 := hL8.out; rw [List.length_append] at h1; omega
        have HB9 := hide hB9
        have hst9 := hide (hst6.out.below hx9)
        have hbase9 : w1.heap.size ≤ w9.heap.size := Nat.le_trans hbr6.out.size hx9.size
        have hpre : (headB g ++ (Code.putN n ++ (l.take j).flatMap casB)).length ≤ 10000000 := by
          have h1 := casesB_len (l := l.take j) fun y hy => by
            obtain ⟨i, hi⟩ := List.getElem?_of_mem (List.mem_of_mem_take hy)
            exact (right_ok hres.out hi).2.2.2.2.1
          have h2 := putN_len n
          rw [List.length_append, List.length_append, headB_len]
          rw [List.length_take] at h1
          omega
        clear hcc9 hB9 hown9 e2
        go_wp2_with (at_builtin; refine appB w1.heap.size hst9.out HB9.out (by omega) hbase9 rfl _ _ rfl rfl _ rfl ?_)
        intro v10 w10 hown10 hbel10
        have hbr10 : Hid (Below w1.heap.size w1 w10) := (hbr6.out.trans (hx9.mono hbr6.out.size)).trans hbel10
        have hown11 : Own w10 w1.heap.size v10 (headB g ++ (Code.putN n ++ (l.take (j + 1)).flatMap casB)) := by
          rw [casB_take hx'.out]
          simpa [casB] using hown10
        have hst10 := hide hown11
        obtain ⟨A10, L10, c10, hv10, hL10, hB10, hcc10⟩ := hown11.form2
        subst hv10
        clear hown10 hbel10 hown11 hB10 hcc10
        by_cases hov : 60000 < L10
        · have hov' : decide (60000 < (L10 : Int)) = true := by simp; omega
          have henc : Hid (encB g l = ([], 5)) := by
            show _ = _
            have h1 := corB_len (g := g) (l := l) (j := j + 1)
            rw [hlen.out, ← hL10.out] at h1
            unfold encB
            rw [hres.out, if_pos rfl, frame_len, if_pos (by omega)]
          go_wp2_with fail
          go_ret2
          unfold EncPost
          rw [henc.out]
          exact ⟨.slice none 0 0, rfl, Own.nil_ _ _, below_both hb1.out hbr10.out hb1.out.size⟩
        · have hov' : decide (60000 < (L10 : Int)) = false := by simp; omega
          go_wp2_with fail
          exact ⟨⟨j + 1, by omega, by go_num, hst10, hbr10⟩, by simp [intOf]; omega⟩
      · have hlt' : decide ((j : Int) < (n : Int)) = false := by simp; omega
        have hst2 : Hid (Own wr w1.heap.size u5 (corB g l)) := by
          show Own _ _ _ _
          have := hst.out
          rw [List.take_of_length_le (by rw [hlen.out]; omega)] at this
          unfold corB
          rw [hlen.out]
          exact this
        have hcl : (corB g l).length ≤ 10000000 := by
          have h1 := casesB_len (l := l) fun y hy => by
            obtain ⟨i, hi⟩ := List.getElem?_of_mem hy
            exact (right_ok hres.out hi).2.2.2.2.1
          have h2 := putN_len l.length
          have h3 := hlen.out
          unfold corB
          rw [List.length_append, List.length_append, headB_len]
          omega
        obtain ⟨A6, L6, c6, hv6, hL6, hB6, hcc6⟩ := hst2.out.form2
        subst hv6
        have HB6 := hide hB6
        have hL6' : L6 ≤ 10000000 := by rw [hL6.out]; exact hcl
        clear hst hcc6 hB6
        go_wp2_with fail
        refine (rframe_any A6 L6 c6 (corB g l) _ HB6.out (by omega)).mono ?_
        rintro e w7 ⟨v7, rfl, hown7, hbel7⟩
        obtain ⟨A7, L7, c7, hv7, hL7, hB7, hcc7⟩ := hown7.form2
        subst hv7
        have hb7 : Hid (Below w.heap.size w w7) := below_both hb1.out (below_both hbr.out hbel7 hbr.out.size) hb1.out.size
        have ho7 := hide (own_mono hown7 (Nat.le_trans hb1.out.size hbr.out.size))
        clear hcc7 hB7 hown7 hbel7
        by_cases hbig : 60000 < L7
        · have hbig' : decide (60000 < (L7 : Int)) = true := by simp; omega
          have henc : Hid (encB g l = ([], 5)) := by show _ = _; unfold encB; rw [hres.out, ← hL7.out, if_pos rfl, if_pos hbig]
          go_wp2_with fail
          go_ret2
          unfold EncPost
          rw [henc.out]
          exact ⟨.slice none 0 0, rfl, Own.nil_ _ _, hb7.out⟩
        · have hbig' : decide (60000 < (L7 : Int)) = false := by simp; omega
          have henc : Hid (encB g l = (frameB (corB g l), 0)) := by show _ = _; unfold encB; rw [hres.out, ← hL7.out, if_pos rfl, if_neg hbig]
          go_wp2_with fail
          go_ret2
          unfold EncPost
          rw [henc.out]
          exact ⟨_, rfl, ho7.out, hb7.out⟩
end Go.Proofs.Ytbfefjlilmoigaa
