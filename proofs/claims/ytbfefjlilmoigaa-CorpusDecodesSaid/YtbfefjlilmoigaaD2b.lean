/- Where a case that was read ends. -/
import Derived.Test.YtbfefjlilmoigaaD2
import Derived.Test.YtbfefjlilmoigaaWhole
namespace Go.Proofs.Ytbfefjlilmoigaa
set_option linter.unusedVariables false

theorem getList_bound {bs : List UInt8} {at_ : Nat} {most : Int} {l : List Int} {to : Int} (h : getList bs at_ most = (l, to, 0)) : ∃ k : Nat, to = k ∧ at_ < k ∧ k ≤ bs.length ∧ okL l = true := by
  unfold getList at h
  generalize hg : Code.getN bs (at_ : Int) = r at h
  obtain ⟨x, nx, e⟩ := r
  dsimp only at h
  by_cases he : e = 0
  · subst he
    simp only [ne_eq, not_true_eq_false, if_false] at h
    by_cases hx : most < (x : Int)
    · simp [hx] at h
    · simp only [hx, if_false] at h
      obtain ⟨b1, b2, b3, b4⟩ := getN_bound bs at_ x nx hg
      obtain ⟨k0, rfl⟩ := Int.eq_ofNat_of_zero_le (show (0 : Int) ≤ nx by omega)
      obtain ⟨k, rfl, h1, h2, h3, h4, h5⟩ := getItems_just bs x k0 l to (by omega) h
      exact ⟨k, rfl, by omega, h2, h4⟩
  · simp [he] at h

theorem oneR_bound {bs : List UInt8} {at_ : Nat} {x : Cas} {nx : Int} (h : oneR bs at_ = .ok (x, nx)) : ∃ k : Nat, nx = k ∧ at_ < k ∧ k ≤ bs.length := by
  unfold oneR at h
  cases h1 : numR bs at_ okK 3 with
  | error z => rw [h1] at h; cases h
  | ok r =>
    obtain ⟨k, a1⟩ := r
    rw [h1] at h
    dsimp only at h
    have b1 := getN_bound _ _ _ _ (numR_ok h1).1
    cases h2 : numR bs a1 okI 3 with
    | error z => rw [h2] at h; cases h
    | ok r =>
      obtain ⟨q, a2⟩ := r
      rw [h2] at h
      dsimp only at h
      have b := getN_bound _ _ _ _ (numR_ok h2).1
      obtain ⟨a2, rfl⟩ := Int.eq_ofNat_of_zero_le (show (0 : Int) ≤ a2 by omega)
      generalize hl : getList bs (a2 : Int) 300 = r at h
      obtain ⟨l, to, f⟩ := r
      dsimp only at h
      by_cases hf : f = 0
      · subst hf
        simp only [ne_eq, not_true_eq_false, if_false] at h
        injection h with h
        obtain ⟨rfl, rfl⟩ := Prod.mk.inj h
        obtain ⟨k, rfl, c1, c2, _⟩ := getList_bound hl
        exact ⟨k, rfl, by omega, c2⟩
      · simp [hf] at h
end Go.Proofs.Ytbfefjlilmoigaa
