/- The walk of CodeWhole. -/
import Derived.Test.YtbfefjlilmoigaaWhole
import Derived.Test.YtbfefjlilmoigaaSeq
import Derived.Test.YtbfefjlilmoigaaT6

namespace Go.Proofs.Ytbfefjlilmoigaa
open Go.RowKit
set_option linter.unusedVariables false

set_option maxHeartbeats 1000000 in
set_option maxRecDepth 100000 in
theorem whole_big (A B : Option Addr) (n d d2 n2 : Nat) (b2 : List UInt8) (l : List Int) (w : World) (hi : Ints w A n l) (hb : Bytes w B n2 b2) (hd2 : n2 ≤ d2) (hd2m : d2 ≤ 9223372036854775807)
    (hx : ∀ z ∈ l, -9223372036854775808 ≤ z ∧ z ≤ 9223372036854775807) (h1 : 300 < n) :
    Calls Try.prog 12 #[.slice A n d, .slice B n2 d2] w fun e w' => e = .returned (.bool true) ∧ Below w.heap.size w w' := by
  have H := hide hb
  have hl := hide hb.len
  have HI := hide hi
  have hil := hide hi.len
  have HX := hide hx
  have hdm := hide hd2m
  clear hb hi hx hd2m
  have hgt : decide (300 < (n : Int)) = true := by simp; omega
  go_enter Try.func12, Try.ntmps12
  go_wp2_with fail
  refine (alive5 _).mono ?_
  rintro e w1 ⟨rfl, hbel1⟩
  go_wp2_with fail
  go_ret
  exact ⟨rfl, hbel1⟩

set_option maxHeartbeats 1000000 in
set_option maxRecDepth 100000 in
theorem whole_big2 (A B : Option Addr) (n d d2 n2 : Nat) (b2 : List UInt8) (l : List Int) (w : World) (hi : Ints w A n l) (hb : Bytes w B n2 b2) (hd2 : n2 ≤ d2) (hd2m : d2 ≤ 9223372036854775807)
    (hx : ∀ z ∈ l, -9223372036854775808 ≤ z ∧ z ≤ 9223372036854775807) (h1 : ¬ 300 < n) (h2 : 1000 < n2) :
    Calls Try.prog 12 #[.slice A n d, .slice B n2 d2] w fun e w' => e = .returned (.bool true) ∧ Below w.heap.size w w' := by
  have H := hide hb
  have hl := hide hb.len
  have HI := hide hi
  have hil := hide hi.len
  have HX := hide hx
  have hdm := hide hd2m
  clear hb hi hx hd2m
  have hgt : decide (300 < (n : Int)) = false := by simp; omega
  have hgt3 : decide (1000 < (n2 : Int)) = true := by simp; omega
  go_enter Try.func12, Try.ntmps12
  go_wp2_with fail
  refine (alive5 _).mono ?_
  rintro e w1 ⟨rfl, hbel1⟩
  go_wp2_with fail
  go_ret
  exact ⟨rfl, hbel1⟩

set_option maxHeartbeats 1000000 in
set_option maxRecDepth 100000 in
theorem whole_good (A B : Option Addr) (n d d2 n2 : Nat) (b2 : List UInt8) (l : List Int) (w : World) (hi : Ints w A n l) (hb : Bytes w B n2 b2) (hd2 : n2 ≤ d2) (hd2m : d2 ≤ 9223372036854775807)
    (hx : ∀ z ∈ l, -9223372036854775808 ≤ z ∧ z ≤ 9223372036854775807) (h1 : ¬ 300 < n) (h2 : ¬ 1000 < n2) (hok : okL l = true) :
    Calls Try.prog 12 #[.slice A n d, .slice B n2 d2] w fun e w' => e = .returned (.bool true) ∧ Below w.heap.size w w' := by
  have H := hide hb
  have hl := hide hb.len
  have HI := hide hi
  have hil := hide hi.len
  have HX := hide hx
  have hdm := hide hd2m
  clear hb hi hx hd2m
  have hgt : decide (300 < (n : Int)) = false := by simp; omega
  have hgt3 : decide (1000 < (n2 : Int)) = false := by simp; omega
  go_enter Try.func12, Try.ntmps12
  go_wp2_with fail
  refine (alive5 _).mono ?_
  rintro e w1 ⟨rfl, hbel1⟩
  have hb1 : Hid (Below w.heap.size w w1) := hbel1
  clear hbel1
  go_wp2_with fail
  have C2 := putl_any none A 0 0 n d [] l w1 (Elems.nil _ _) (HI.out.below hb1.out) (by omega) (by omega) HX.out
  unfold PutPost at C2
  rw [hok] at C2
  simp only [if_true, List.nil_append] at C2
  refine C2.mono ?_
  clear C2
  rintro e w2 ⟨v2, rfl, hown2, hbel2⟩
  have hb2 := hide (below_both hb1.out hbel2 hb1.out.size)
  have hx2 : Hid (Below w1.heap.size w1 w2) := hbel2
  have hs2 := hx2.out.size
  obtain ⟨A2, L2, c2, hv2, hL2, hB2, hcc⟩ := hown2.form2
  subst hv2
  have hL2n : L2 ≤ 1600 := by have := hL2.out; have := listB_len l; have := hil.out; omega
  clear hbel2 hcc
  go_wp2_with (at_builtin; refine appB w2.heap.size (Own.empty w2) (hB2.below (below_alloc _ _)) (by first | omega | (simp; omega)) (by simp) rfl _ _ rfl rfl _ rfl ?_)
  intro v3 w3 hown3 hbel3
  have hx3 : Hid (Below w2.heap.size w2 w3) := (below_alloc _ _).trans hbel3
  have hs3 := hx3.out.size
  have hb3 : Hid (Below w.heap.size w w3) := hb2.out.trans (hx3.out.mono hb2.out.size)
  have hlen3 : (listB l).length ≤ 1600 := by rw [← hL2.out]; exact hL2n
  clear hbel3
  go_wp2_with (at_builtin; refine appB w2.heap.size hown3 (H.out.below hb3.out) (by first | omega | (simp at hlen3 ⊢; omega)) (by omega) rfl _ _ rfl rfl _ rfl ?_)
  intro v4 w4 hown4 hbel4
  have hb4 : Hid (Below w.heap.size w w4) := hb3.out.trans (hbel4.mono hb2.out.size)
  clear hbel4 hown3
  obtain ⟨A4, L4, c4, hv4, hL4, hB4, hc4, hm4⟩ := hown4.form2
  subst hv4
  have hL4n : L4 ≤ 100000 := by have := hL4.out; have := hl.out; simp at this hlen3 ⊢; simp at *; omega
  have C8 := getl_any A4 L4 c4 _ 0 (n : Int) w4 hB4 (by omega) hc4 hm4 (by omega) (by omega)
  have hg : getList (listB l ++ b2) 0 (n : Int) = (l, (L2 : Int), 0) := by
    have := getList_put l b2 hok (by have := hil.out; omega)
    rw [hil.out] at this
    rw [this, hL2.out]
  rw [hg] at C8
  clear hg hL4 hm4 hc4 hown4 hown2 hlen3
  go_wp2_with fail
  refine C8.mono ?_
  clear C8
  rintro e w7 ⟨v7, rfl, hown7, hbel7⟩
  have hb7 := below_both hb4.out hbel7 hb4.out.size
  dsimp only at hown7 ⊢
  obtain ⟨A7, L7, c7, hv7, hL7, hB7, hl7, hm7⟩ := hown7.form2
  subst hv7
  have hL7n : L7 ≤ 9223372036854775807 := by omega
  go_wp2_with fail
  refine (rints_any A7 A L7 n c7 d l l w7 hB7 (HI.out.below hb7) hL7n (by omega)).mono ?_
  have hll : (l == l) = true := by simp
  rw [hll]
  rintro e wT ⟨rfl, q, rfl⟩
  have hbT := below_drewN' hb7 q
  clear hb7 hbel7 hown7 hB7 hL7 hL7n hll hl7 hm7 hB4 hB2
  generalize w7.drewN q = wT at *

  -- the tail: the bytes got, and put again
  have C10 := getl_any B n2 d2 b2 0 300 wT (H.out.below hbT) (by omega) hd2 hdm.out (by omega) (by omega)
  have hj := hide (getList_just b2)
  have hz := hide (getList_bad b2 0 300)
  generalize hr : getList b2 0 300 = r at C10
  obtain ⟨m, to, f⟩ := r
  have hr' := hide hr
  clear hr
  have hbT' := hide hbT
  clear hbT
  go_wp2_with fail
  refine C10.mono ?_
  clear C10
  rintro e w5 ⟨v5, rfl, hown5, hbel5⟩
  dsimp only at hown5 ⊢
  have hb5 := below_both hbT'.out hbel5 hbT'.out.size
  by_cases hf : f = 0
  · subst hf
    obtain ⟨k, rfl, hk1, hk2, hk3, hk4⟩ := hj.out m 300 to hr'.out
    have hkn : k ≤ n2 := by have := hl.out; omega
    obtain ⟨A5, L5, c5, hv5, hL5, hB5, hl5, hm5⟩ := hown5.form2
    subst hv5
    have hL5n : L5 ≤ 300 := by have := hL5.out; omega
    go_wp2_with fail
    have C13 := putl_any none A5 0 0 L5 c5 [] m w5 (Elems.nil _ _) hB5 (by omega) (by omega) (okL_bounds hk3)
    unfold PutPost at C13
    rw [hk3] at C13
    simp only [if_true, List.nil_append] at C13
    rw [hk4] at C13
    refine C13.mono ?_
    clear C13
    rintro e w6 ⟨v6, rfl, hown6, hbel6⟩
    have hb6 := below_both hb5 hbel6 hb5.size
    obtain ⟨A6, L6, c6, hv6, hL6, hB6, _⟩ := hown6.form2
    subst hv6
    have hkd : k ≤ d2 := by omega
    have HB := (H.out.take k hkn).below hb6
    have F0 : ∀ W, Ext w6 W → Sem.run Try.prog (Go.convert 22 9 (.slice B k d2)) W = .ok (.string ⟨(b2.take k).toArray⟩) W := fun W hW => (HB.below hW).convert d2
    have F6 : ∀ W, Ext w6 W → Sem.run Try.prog (Go.convert 22 9 (.slice A6 L6 c6)) W = .ok (.string ⟨(b2.take k).toArray⟩) W := fun W hW => (hB6.below hW).convert c6
    have hb6' := hide hb6
    clear hk1 hk2 hk3 hk4 hj hz hr' HB hB6 hown6 hown5 hB5 hbel6 hbel5 hb5 hb6
    go_wp2_with fail
    refine wp_region_seq [(0, false), (1, false), (2, false), (3, false), (4, false), (5, false), (6, false), (7, false), (8, false), (9, false), (10, false), (11, false), (12, false), (13, false), (14, false), (15, false), (16, false), (17, false), (18, false), (19, false), (20, false), (21, false)]
      (by kernel_rfl) (by kernel_rfl) (by kernel_rfl) rfl (by kernel_rfl) (fun _ _ d _ _ h => by cases d <;> exact h) ?_
    simp only [List.map_cons, List.map_nil, List.getElem?_cons_succ, List.getElem?_cons_zero, Option.getD_some]
    iterate 22 (refine wpSeq_take rfl rfl (fun W hW => (by go_simp; with_reducible rfl)) ?_; simp only [List.setIfInBounds_toArray, List.set_cons_zero, List.set_cons_succ])
    refine wpSeq_nil ?_
    go_wp2
    go_ret
    exact ⟨rfl, hb6'.out.trans ((Ext.drew w6).mono hb6'.out.size)⟩
  · obtain ⟨rfl, rfl⟩ := hz.out m to f hr'.out hf
    obtain ⟨A5, c5, hv5, hB5, _⟩ := hown5.form
    subst hv5
    have hft : ((f : Int) != 0) = true := by simp; omega
    have hb5' := hide hb5
    clear hf hj hz hr' hown5 hB5 hbel5 hb5
    go_wp2_with fail
    go_ret
    exact ⟨rfl, hb5'.out⟩

set_option maxHeartbeats 1000000 in
set_option maxRecDepth 100000 in
theorem whole_bad (A B : Option Addr) (n d d2 n2 : Nat) (b2 : List UInt8) (l : List Int) (w : World) (hi : Ints w A n l) (hb : Bytes w B n2 b2) (hd2 : n2 ≤ d2) (hd2m : d2 ≤ 9223372036854775807)
    (hx : ∀ z ∈ l, -9223372036854775808 ≤ z ∧ z ≤ 9223372036854775807) (h1 : ¬ 300 < n) (h2 : ¬ 1000 < n2) (hok : okL l = false) :
    Calls Try.prog 12 #[.slice A n d, .slice B n2 d2] w fun e w' => e = .returned (.bool true) ∧ Below w.heap.size w w' := by
  have H := hide hb
  have hl := hide hb.len
  have HI := hide hi
  have hil := hide hi.len
  have HX := hide hx
  have hdm := hide hd2m
  clear hb hi hx hd2m
  have hgt : decide (300 < (n : Int)) = false := by simp; omega
  have hgt3 : decide (1000 < (n2 : Int)) = false := by simp; omega
  go_enter Try.func12, Try.ntmps12
  go_wp2_with fail
  refine (alive5 _).mono ?_
  rintro e w1 ⟨rfl, hbel1⟩
  have hb1 : Hid (Below w.heap.size w w1) := hbel1
  clear hbel1
  go_wp2_with fail
  have C2 := putl_any none A 0 0 n d [] l w1 (Elems.nil _ _) (HI.out.below hb1.out) (by omega) (by omega) HX.out
  unfold PutPost at C2
  rw [hok] at C2
  simp only [List.nil_append, Bool.false_eq_true, if_false] at C2
  refine C2.mono ?_
  clear C2
  rintro e w2 ⟨v2, rfl, hown2, hbel2⟩
  have hb2 := hide (below_both hb1.out hbel2 hb1.out.size)
  have hx2 : Hid (Below w1.heap.size w1 w2) := hbel2
  have hs2 := hx2.out.size
  obtain ⟨A2, c2, hv2, hB2, hcc⟩ := hown2.form
  subst hv2
  generalize w2 = wT at *
  have hbT := hb2.out
  clear hbel2 hcc hown2 hB2

  -- the tail: the bytes got, and put again
  have C10 := getl_any B n2 d2 b2 0 300 wT (H.out.below hbT) (by omega) hd2 hdm.out (by omega) (by omega)
  have hj := hide (getList_just b2)
  have hz := hide (getList_bad b2 0 300)
  generalize hr : getList b2 0 300 = r at C10
  obtain ⟨m, to, f⟩ := r
  have hr' := hide hr
  clear hr
  have hbT' := hide hbT
  clear hbT
  go_wp2_with fail
  refine C10.mono ?_
  clear C10
  rintro e w5 ⟨v5, rfl, hown5, hbel5⟩
  dsimp only at hown5 ⊢
  have hb5 := below_both hbT'.out hbel5 hbT'.out.size
  by_cases hf : f = 0
  · subst hf
    obtain ⟨k, rfl, hk1, hk2, hk3, hk4⟩ := hj.out m 300 to hr'.out
    have hkn : k ≤ n2 := by have := hl.out; omega
    obtain ⟨A5, L5, c5, hv5, hL5, hB5, hl5, hm5⟩ := hown5.form2
    subst hv5
    have hL5n : L5 ≤ 300 := by have := hL5.out; omega
    go_wp2_with fail
    have C13 := putl_any none A5 0 0 L5 c5 [] m w5 (Elems.nil _ _) hB5 (by omega) (by omega) (okL_bounds hk3)
    unfold PutPost at C13
    rw [hk3] at C13
    simp only [if_true, List.nil_append] at C13
    rw [hk4] at C13
    refine C13.mono ?_
    clear C13
    rintro e w6 ⟨v6, rfl, hown6, hbel6⟩
    have hb6 := below_both hb5 hbel6 hb5.size
    obtain ⟨A6, L6, c6, hv6, hL6, hB6, _⟩ := hown6.form2
    subst hv6
    have hkd : k ≤ d2 := by omega
    have HB := (H.out.take k hkn).below hb6
    have F0 : ∀ W, Ext w6 W → Sem.run Try.prog (Go.convert 22 9 (.slice B k d2)) W = .ok (.string ⟨(b2.take k).toArray⟩) W := fun W hW => (HB.below hW).convert d2
    have F6 : ∀ W, Ext w6 W → Sem.run Try.prog (Go.convert 22 9 (.slice A6 L6 c6)) W = .ok (.string ⟨(b2.take k).toArray⟩) W := fun W hW => (hB6.below hW).convert c6
    have hb6' := hide hb6
    clear hk1 hk2 hk3 hk4 hj hz hr' HB hB6 hown6 hown5 hB5 hbel6 hbel5 hb5 hb6
    go_wp2_with fail
    refine wp_region_seq [(0, false), (1, false), (2, false), (3, false), (4, false), (5, false), (6, false), (7, false), (8, false), (9, false), (10, false), (11, false), (12, false), (13, false), (14, false), (15, false), (16, false), (17, false), (18, false), (19, false), (20, false), (21, false)]
      (by kernel_rfl) (by kernel_rfl) (by kernel_rfl) rfl (by kernel_rfl) (fun _ _ d _ _ h => by cases d <;> exact h) ?_
    simp only [List.map_cons, List.map_nil, List.getElem?_cons_succ, List.getElem?_cons_zero, Option.getD_some]
    iterate 22 (refine wpSeq_take rfl rfl (fun W hW => (by go_simp; with_reducible rfl)) ?_; simp only [List.setIfInBounds_toArray, List.set_cons_zero, List.set_cons_succ])
    refine wpSeq_nil ?_
    go_wp2
    go_ret
    exact ⟨rfl, hb6'.out.trans ((Ext.drew w6).mono hb6'.out.size)⟩
  · obtain ⟨rfl, rfl⟩ := hz.out m to f hr'.out hf
    obtain ⟨A5, c5, hv5, hB5, _⟩ := hown5.form
    subst hv5
    have hft : ((f : Int) != 0) = true := by simp; omega
    have hb5' := hide hb5
    clear hf hj hz hr' hown5 hB5 hbel5 hb5
    go_wp2_with fail
    go_ret
    exact ⟨rfl, hb5'.out⟩

theorem law_whole (A B : Option Addr) (n d d2 n2 : Nat) (b2 : List UInt8) (l : List Int) (w : World) (hi : Ints w A n l) (hb : Bytes w B n2 b2) (hd2 : n2 ≤ d2) (hd2m : d2 ≤ 9223372036854775807)
    (hx : ∀ z ∈ l, -9223372036854775808 ≤ z ∧ z ≤ 9223372036854775807) :
    Calls Try.prog 12 #[.slice A n d, .slice B n2 d2] w fun e w' => e = .returned (.bool true) ∧ Below w.heap.size w w' := by
  by_cases h1 : 300 < n
  · exact whole_big A B n d d2 n2 b2 l w hi hb hd2 hd2m hx h1
  by_cases h2 : 1000 < n2
  · exact whole_big2 A B n d d2 n2 b2 l w hi hb hd2 hd2m hx h1 h2
  cases hok : okL l with
  | true => exact whole_good A B n d d2 n2 b2 l w hi hb hd2 hd2m hx h1 h2 hok
  | false => exact whole_bad A B n d d2 n2 b2 l w hi hb hd2 hd2m hx h1 h2 hok
end Go.Proofs.Ytbfefjlilmoigaa

