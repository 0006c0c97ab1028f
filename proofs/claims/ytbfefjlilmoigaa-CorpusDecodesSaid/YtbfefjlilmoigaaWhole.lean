/- Plain laws of lists in bytes: what is put is got back, and what is got was put so. -/
import Derived.Test.YtbfefjlilmoigaaL7
namespace Go.Proofs.Ytbfefjlilmoigaa
set_option linter.unusedVariables false

theorem okL_cons {x : Int} {l : List Int} : okL (x :: l) = (okI x && okL l) := rfl
theorem itemsB_cons (x : Int) (l : List Int) : itemsB (x :: l) = Code.putN x.toNat ++ itemsB l := rfl

theorem getItems_put : ∀ (l : List Int) (pre tail : List UInt8), okL l = true → getItems (pre ++ (itemsB l ++ tail)) l.length (pre.length : Int) = (l, ((pre.length + (itemsB l).length : Nat) : Int), 0)
  | [], pre, tail, _ => by simp [getItems, itemsB]
  | x :: l, pre, tail, h => by
    rw [okL_cons] at h
    simp only [okI, Bool.and_eq_true, decide_eq_true_eq] at h
    obtain ⟨⟨h1, h2⟩, h3⟩ := h
    have hg := getN_put pre (itemsB l ++ tail) x.toNat (by omega)
    have ih := getItems_put l (pre ++ Code.putN x.toNat) tail h3
    rw [List.append_assoc, List.length_append] at ih
    rw [itemsB_cons, List.append_assoc, List.length_cons, getItems, hg]
    simp only [ne_eq, not_true_eq_false, if_false]
    rw [if_neg (by omega), ih]
    simp only [if_true]
    rw [Int.toNat_of_nonneg h1, List.length_append]
    congr 2
    omega

theorem getList_put (l : List Int) (tail : List UInt8) (h : okL l = true) (hl : l.length < 4294967296) : getList (listB l ++ tail) 0 (l.length : Int) = (l, ((listB l).length : Int), 0) := by
  have hg := getN_put [] (itemsB l ++ tail) l.length hl
  have hi := getItems_put l (Code.putN l.length) tail h
  simp only [List.nil_append, List.length_nil, Nat.zero_add] at hg
  unfold getList listB
  rw [List.append_assoc, show ((0 : Int)) = ((0 : Nat) : Int) from rfl, hg]
  simp only [ne_eq, not_true_eq_false, if_false]
  rw [if_neg (by omega), hi, List.length_append]

theorem getItems_just : ∀ (bs : List UInt8) (c at_ : Nat) (m : List Int) (to : Int), at_ ≤ bs.length → getItems bs c at_ = (m, to, 0) →
    ∃ k : Nat, to = k ∧ at_ ≤ k ∧ k ≤ bs.length ∧ m.length = c ∧ okL m = true ∧ itemsB m = (bs.drop at_).take (k - at_)
  | bs, 0, at_, m, to, ha, h => by
    simp only [getItems, Prod.mk.injEq] at h
    obtain ⟨rfl, rfl, _⟩ := h
    exact ⟨at_, rfl, by omega, ha, rfl, rfl, by simp [itemsB]⟩
  | bs, c + 1, at_, m, to, ha, h => by
    unfold getItems at h
    generalize hg : Code.getN bs (at_ : Int) = r at h
    obtain ⟨x, nx, e⟩ := r
    dsimp only at h
    by_cases he : e = 0
    · subst he
      simp only [ne_eq, not_true_eq_false, if_false] at h
      by_cases hx : 2147483648 ≤ x
      · simp [hx] at h
      · simp only [hx, if_false] at h
        obtain ⟨b1, b2, b3, b4⟩ := getN_bound bs at_ x nx hg
        obtain ⟨k0, rfl⟩ := Int.eq_ofNat_of_zero_le (show (0 : Int) ≤ nx by omega)
        have hj := getN_just bs at_ x _ hg
        generalize hi : getItems bs c (k0 : Int) = q at h
        obtain ⟨m', to', e'⟩ := q
        dsimp only at h
        by_cases he' : e' = 0
        · subst he'
          simp only [if_true, Prod.mk.injEq, and_true] at h
          obtain ⟨rfl, rfl⟩ := h
          obtain ⟨k, rfl, h1, h2, h3, h4, h5⟩ := getItems_just bs c k0 m' to' (by omega) hi
          refine ⟨k, rfl, by omega, h2, by simp [h3], ?_, ?_⟩
          · rw [okL_cons, h4]
            simp only [okI, Bool.and_true, Bool.and_eq_true, decide_eq_true_eq]
            omega
          · rw [itemsB_cons, Int.toNat_natCast, hj, h5, show k - at_ = (k0 - at_) + (k - k0) by omega, List.take_add, List.drop_drop, show at_ + (k0 - at_) = k0 by omega]
            congr 2
        · simp [he'] at h
    · simp [he] at h

theorem getList_just (bs : List UInt8) (m : List Int) (most : Nat) (to : Int) (h : getList bs 0 (most : Int) = (m, to, 0)) :
    ∃ k : Nat, to = k ∧ k ≤ bs.length ∧ m.length ≤ most ∧ okL m = true ∧ listB m = bs.take k := by
  unfold getList at h
  generalize hg : Code.getN bs 0 = r at h
  obtain ⟨x, nx, e⟩ := r
  dsimp only at h
  by_cases he : e = 0
  · subst he
    simp only [ne_eq, not_true_eq_false, if_false] at h
    by_cases hx : (most : Int) < (x : Int)
    · simp [hx] at h
    · simp only [hx, if_false] at h
      obtain ⟨b1, b2, b3, b4⟩ := getN_bound bs 0 x nx hg
      obtain ⟨k0, rfl⟩ := Int.eq_ofNat_of_zero_le (show (0 : Int) ≤ nx by omega)
      have hj := getN_just bs 0 x _ hg
      obtain ⟨k, rfl, h1, h2, h3, h4, h5⟩ := getItems_just bs x k0 m to (by omega) h
      refine ⟨k, rfl, h2, by omega, h4, ?_⟩
      unfold listB
      rw [h3, hj, h5, Int.toNat_natCast, Nat.sub_zero, List.drop_zero, show k = k0 + (k - k0) by omega, List.take_add]
      congr 2
      omega
  · simp [he] at h

theorem getItems_bad : ∀ (bs : List UInt8) (c : Nat) (at_ : Int) (m : List Int) (to : Int) (e : Nat), getItems bs c at_ = (m, to, e) → e ≠ 0 → m = [] ∧ to = 0
  | bs, 0, at_, m, to, e, h, he => by simp only [getItems, Prod.mk.injEq] at h; omega
  | bs, c + 1, at_, m, to, e, h, he => by
    unfold getItems at h
    split at h
    · simp only [Prod.mk.injEq] at h; exact ⟨h.1.symm, h.2.1.symm⟩
    · split at h
      · simp only [Prod.mk.injEq] at h; exact ⟨h.1.symm, h.2.1.symm⟩
      · split at h
        · simp only [Prod.mk.injEq] at h; omega
        · simp only [Prod.mk.injEq] at h; exact ⟨h.1.symm, h.2.1.symm⟩

theorem getList_bad (bs : List UInt8) (at_ most : Int) (m : List Int) (to : Int) (e : Nat) (h : getList bs at_ most = (m, to, e)) (he : e ≠ 0) : m = [] ∧ to = 0 := by
  unfold getList at h
  split at h
  · simp only [Prod.mk.injEq] at h; exact ⟨h.1.symm, h.2.1.symm⟩
  · split at h
    · simp only [Prod.mk.injEq] at h; exact ⟨h.1.symm, h.2.1.symm⟩
    · exact getItems_bad bs _ _ m to e h he

theorem okL_bounds {m : List Int} (h : okL m = true) : ∀ z ∈ m, -9223372036854775808 ≤ z ∧ z ≤ 9223372036854775807 := by
  intro z hz
  have := List.all_eq_true.1 h z hz
  simp only [okI, Bool.and_eq_true, decide_eq_true_eq] at this
  omega
end Go.Proofs.Ytbfefjlilmoigaa
