/- The walk of CodeBack. -/
import Derived.Test.YtbfefjlilmoigaaL6
import Derived.Test.YtbfefjlilmoigaaSeq
import Derived.Test.YtbfefjlilmoigaaT6
namespace Go.Proofs.Ytbfefjlilmoigaa
open Go.RowKit
set_option linter.unusedVariables false

theorem getN_put (b0 tail : List UInt8) (m : Nat) (hm : m < 4294967296) : Code.getN (b0 ++ (Code.putN m ++ tail)) (b0.length : Int) = (m, ((b0.length + (Code.putN m).length : Nat) : Int), 0) := by
  have h := Code.getF_putF 4 0 0 m tail (by omega) (by omega) (by omega)
  have h2 := getN_ok (b0 ++ (Code.putN m ++ tail)) b0.length m (Code.putN m).length (by simp) (by rw [List.drop_left]; unfold Code.putN; rw [h]; simp)
  rw [h2]
  simp

theorem getN_just (bs : List UInt8) (at_ x : Nat) (nx : Int) (h : Code.getN bs at_ = (x, nx, 0)) : Code.putN x = (bs.drop at_).take (nx.toNat - at_) := by
  obtain ⟨h1, h2, h3, h4⟩ := getN_bound bs at_ x nx h
  unfold Code.getN at h
  rw [if_neg (by omega), Int.toNat_natCast] at h
  generalize hg : Code.getF 5 0 0 (bs.drop at_) = r at h
  obtain ⟨v, k, e⟩ := r
  cases e with
  | zero =>
    simp only [Prod.mk.injEq, and_true] at h
    obtain ⟨rfl, rfl⟩ := h
    obtain ⟨n, hv, _, hk, hlen, hput, _⟩ := Code.putF_getF 4 0 0 _ _ _ hg
    have : n = v := by rw [hv]; simp
    subst this
    unfold Code.putN
    rw [hput]
    congr 1
    omega
  | succ e => simp at h

set_option maxHeartbeats 400000 in
set_option maxRecDepth 100000 in
theorem law_back (A B : Option Addr) (n c d2 n2 : Nat) (b0 b2 : List UInt8) (m : Nat) (w : World) (h0 : Bytes w A n b0) (h2 : Bytes w B n2 b2) (hd2 : n2 ≤ d2) (hd2m : d2 ≤ 9223372036854775807) (hm : m < 4294967296) :
    Calls Try.prog 11 #[.slice A n c, .int .u32 m, .slice B n2 d2] w fun e w' => e = .returned (.bool true) ∧ Below w.heap.size w w' := by
  have H := hide h0
  have hl := hide h0.len
  have H2 := hide h2
  have hl2 := hide h2.len
  have hdm := hide hd2m
  clear h0 h2 hd2m
  by_cases h1000 : 300 < n
  · have hgt : decide (300 < (n : Int)) = true := by simp; omega
    go_enter Try.func11, Try.ntmps11
    go_wp2_with fail
    refine (alive5 _).mono ?_
    rintro e w1 ⟨rfl, hbel1⟩
    go_wp2_with fail
    go_ret
    exact ⟨rfl, hbel1⟩
  have hgt : decide (300 < (n : Int)) = false := by simp; omega
  by_cases h300 : 300 < n2
  · have hgt3 : decide (300 < (n2 : Int)) = true := by simp; omega
    go_enter Try.func11, Try.ntmps11
    go_wp2_with fail
    refine (alive5 _).mono ?_
    rintro e w1 ⟨rfl, hbel1⟩
    go_wp2_with fail
    go_ret
    exact ⟨rfl, hbel1⟩
  have hgt3 : decide (300 < (n2 : Int)) = false := by simp; omega
  go_enter Try.func11, Try.ntmps11
  go_wp2_with fail
  refine (alive5 _).mono ?_
  rintro e w1 ⟨rfl, hbel1⟩
  have hb1 : Hid (Below w.heap.size w w1) := hbel1
  go_wp2_with fail
  refine (put_any A n c b0 m _ (H.out.below (below_both hb1.out (below_alloc _ _) hb1.out.size)) (by omega) hm).mono ?_
  rintro e w2 ⟨v2, rfl, hown2, hbel2⟩
  obtain ⟨A2, L2, c2, hv2, hL2, hB2, _⟩ := hown2.form2
  subst hv2
  have hp5 := putN_len m
  have hL2' : L2 = n + (Code.putN m).length := by rw [hL2.out, List.length_append, hl.out]
  have hL2n : L2 ≤ 400 := by omega
  have hl2' := hide hL2'
  clear hL2'
  have hx2 : Hid (Below w1.heap.size w1 w2) := below_both (below_alloc _ _) hbel2 (by simp)
  have hs2 := hx2.out.size
  go_wp2_with (at_builtin; refine appB w1.heap.size ((Own.empty w1).below hbel2) hB2 (by first | omega | (simp; omega)) (by omega) rfl _ _ rfl rfl _ rfl ?_)
  intro v3 w3 hown3 hbel3
  have hs3 := hbel3.size
  have hb3 : Hid (Below w.heap.size w w3) := (below_both hb1.out hx2.out hb1.out.size).trans (hbel3.mono hb1.out.size)
  have hlen3 : (b0 ++ Code.putN m).length ≤ 400 := by rw [← hL2.out]; exact hL2n
  go_wp2_with (at_builtin; refine appB w1.heap.size hown3 (H2.out.below hb3.out) (by first | omega | (simp at hlen3 ⊢; omega)) (by omega) rfl _ _ rfl rfl _ rfl ?_)
  intro v4 w4 hown4 hbel4
  have hb4 : Hid (Below w.heap.size w w4) := hb3.out.trans (hbel4.mono hb1.out.size)
  clear hbel1 hbel2 hbel3 hbel4 hown2 hB2 hown3
  obtain ⟨A4, L4, c4, hv4, hL4, hB4, hc4, hm4⟩ := hown4.form2
  subst hv4
  have hL4' : L4 = L2 + n2 := by rw [hL4.out, hl2'.out]; simp [hl.out, hl2.out]; omega
  have hm4' : c4 ≤ 9223372036854775807 := hm4
  have hg : Code.getN (b0 ++ (Code.putN m ++ b2)) (n : Int) = (m, (L2 : Int), 0) := by
    have := getN_put b0 b2 m hm
    rw [hl.out] at this
    rw [this, hl2'.out]
  have C1 := get_any A4 L4 c4 _ (n : Int) w4 hB4 (by omega) hc4 hm4' (by omega) (by omega)
  unfold got at C1
  rw [hg] at C1
  dsimp only at C1
  clear hg
  have hL4h := hide hL4'
  have hc4h := hide hc4
  clear hL4' hL4 hm4' hm4 hc4 hown4 hlen3
  go_wp2_with fail
  refine C1.mono ?_
  rintro e w5 ⟨rfl, rfl⟩
  clear C1 hp5
  have hne : (L2 : Int) = (L4 : Int) - (n2 : Int) := by have := hL4h.out; omega
  go_wp2_with fail
  clear hne
  have H4 := hide (H2.out.below hb4.out)
  have C2 := get_any B n2 d2 b2 0 w4 H4.out (by omega) hd2 hdm.out (by omega) (by omega)
  unfold got at C2
  have hj := hide (getN_just b2 0)
  have hbd := hide (getN_bound b2 0)
  have he0 := hide (getN_err0 b2 0)
  generalize hr : Code.getN b2 0 = r at C2
  obtain ⟨y, nx, f⟩ := r
  dsimp only at C2
  have hr' := hide hr
  clear hr
  refine C2.mono ?_
  rintro e w5 ⟨rfl, rfl⟩
  clear C2
  by_cases hf : (f : Int) = 0
  · have hf0 : f = 0 := by omega
    subst hf0
    clear hf
    obtain ⟨_, hq1, hq2, hq3⟩ := hbd.out y nx hr'.out
    obtain ⟨k, rfl⟩ := Int.eq_ofNat_of_zero_le (show (0 : Int) ≤ nx by omega)
    have hkn : k ≤ n2 := by have := hl2.out; omega
    have hput : [] ++ Code.putN y = b2.take k := by
      have := hj.out y (k : Int) (by simpa using hr'.out)
      rw [this]
      simp
    have HB := hide (H4.out.take k hkn)
    clear hq1 hq2 hj hbd he0 hr'
    have hkd : k ≤ d2 := by omega
    have F0 : ∀ W, Ext w4 W → Sem.run Try.prog (Go.convert 22 9 (.slice B k d2)) W = .ok (.string ⟨(b2.take k).toArray⟩) W := fun W hW => (HB.out.below hW).convert d2
    have hput' := hide hput
    clear hput
    go_wp2_with fail
    refine wp_region_seq [(0, false), (1, false), (2, false), (3, false), (4, false), (5, false), (6, false), (7, false), (8, false), (9, false), (10, false), (11, false), (12, false), (15, false), (16, false), (17, false), (18, false), (13, true), (14, false), (19, false), (20, false), (21, false), (22, false)]
      (by kernel_rfl) (by kernel_rfl) (by kernel_rfl) rfl (by kernel_rfl) (fun _ _ d _ _ h => by cases d <;> exact h) ?_
    simp only [List.map_cons, List.map_nil, List.getElem?_cons_succ, List.getElem?_cons_zero, Option.getD_some]
    iterate 17 (refine wpSeq_take rfl rfl (fun W hW => (by go_simp; with_reducible rfl)) ?_; simp only [List.setIfInBounds_toArray, List.set_cons_zero, List.set_cons_succ])
    refine wpSeq_alone rfl (fun K hK => ?_)
    go_wp2_with fail
    refine (put_any none 0 0 [] y _ (Elems.nil _ _) (by omega) hq3).mono ?_
    rintro e w6 ⟨v6, rfl, hown6, hbel6⟩
    rw [hput'.out] at hown6
    obtain ⟨A6, L6, c6, hv6, hL6, hB6, _⟩ := hown6.form2
    subst hv6
    have hx6 : Ext w4 w6 := below_both (Ext.drew w4) hbel6 (Nat.le_refl _)
    refine hK _ _ w6 hx6 (Ext.refl w6) ?_
    clear hK K
    have F6 : ∀ W, Ext w6 W → Sem.run Try.prog (Go.convert 22 9 (.slice A6 L6 c6)) W = .ok (.string ⟨(b2.take k).toArray⟩) W := fun W hW => (hB6.below hW).convert c6
    iterate 5 (refine wpSeq_take rfl rfl (fun W hW => (by go_simp; with_reducible rfl)) ?_; simp only [List.setIfInBounds_toArray, List.set_cons_zero, List.set_cons_succ])
    refine wpSeq_nil ?_
    go_wp2
    go_ret
    exact ⟨rfl, hb4.out.trans (hx6.mono hb4.out.size)⟩
  · have hft : ((f : Int) != 0) = true := by simp; omega
    clear hj hbd he0 hr'
    go_wp2_with fail
    refine wp_region_seq [(0, false), (1, false), (2, false), (3, false), (4, false), (5, false), (6, false), (7, false), (8, false), (9, false), (10, false), (11, false), (12, false), (15, false), (16, false), (17, false), (18, false), (13, false), (14, false), (19, false), (20, false), (21, false), (22, false)]
      (by kernel_rfl) (by kernel_rfl) (by kernel_rfl) rfl (by kernel_rfl) (fun _ _ d _ _ h => by cases d <;> exact h) ?_
    simp only [List.map_cons, List.map_nil, List.getElem?_cons_succ, List.getElem?_cons_zero, Option.getD_some]
    iterate 23 (first | (refine wpSeq_skip rfl rfl ?_; simp only [List.setIfInBounds_toArray, List.set_cons_zero, List.set_cons_succ]) | (refine wpSeq_take rfl rfl (fun W hW => (by go_simp; with_reducible rfl)) ?_; simp only [List.setIfInBounds_toArray, List.set_cons_zero, List.set_cons_succ]))
    refine wpSeq_nil ?_
    go_wp2
    go_ret
    exact ⟨rfl, hb4.out.trans ((Ext.drew w4).mono hb4.out.size)⟩
end Go.Proofs.Ytbfefjlilmoigaa
