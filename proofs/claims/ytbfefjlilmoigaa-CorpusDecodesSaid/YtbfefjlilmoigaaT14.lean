/- Walks over the reference: are two lists of numbers the same? -/
import Derived.Test.YtbfefjlilmoigaaT13
import Derived.Deep.QuietTactic
import Derived.BigQuiet
namespace Go.Proofs.Ytbfefjlilmoigaa
open Go.RowKit
set_option linter.unusedVariables false

theorem Elems.drewN {w : World} {A : Option Addr} {n : Nat} {xs : List Value} (h : Elems w A n xs) (q : Nat) : Elems (w.drewN q) A n xs := h
theorem Ints.drewN {w : World} {A : Option Addr} {n : Nat} {l : List Int} (h : Ints w A n l) (q : Nat) : Ints (w.drewN q) A n l := h
theorem below_drewN' {B : Nat} {a w : World} (h : Below B a w) (n : Nat) : Below B a (w.drewN n) := ⟨h.os, h.tape, h.output, h.size, h.block⟩

theorem ne_at {l k : List Int} {j : Nat} {x y : Int} (h1 : l[j]? = some x) (h2 : k[j]? = some y) (h : x ≠ y) : (l == k) = false := by
  rw [beq_eq_false_iff_ne]
  rintro rfl
  rw [h1] at h2
  exact h (Option.some.inj h2)

theorem same_take {α : Type} {l k : List α} {j : Nat} {x : α} (h1 : l[j]? = some x) (h2 : k[j]? = some x) (h : l.take j = k.take j) : l.take (j + 1) = k.take (j + 1) := by
  rw [List.take_add_one, List.take_add_one, h1, h2, h]

set_option maxRecDepth 100000 in
theorem rints_any (A B : Option Addr) (n m c d : Nat) (l k : List Int) (w : World) (h1 : Ints w A n l) (h2 : Ints w B m k) (hn : n ≤ 9223372036854775807) (hm : m ≤ 9223372036854775807) :
    Calls Try.prog 39 #[.slice A n c, .slice B m d] w fun e w' => e = .returned (.bool (l == k)) ∧ ∃ q, w' = w.drewN q := by
  have H1 := hide h1
  have H2 := hide h2
  have l1 := hide h1.len
  have l2 := hide h2.len
  clear h1 h2
  by_cases hne : n = m
  · subst hne
    have t0 : ((n : Int) != (n : Int)) = false := by simp
    go_enter Try.func39, Try.ntmps39
    go_wp2_with fail
    go_loopw [5] (fun i wr => ∃ j : Nat, j ≤ n ∧ i = .int .i64 j ∧ Hid (l.take j = k.take j) ∧ ∃ q, wr = w.drewN q) (fun i _ => n - (intOf i).toNat)
    case atStart => exact ⟨0, by omega, rfl, rfl, 0, rfl⟩
    case round =>
      obtain ⟨j, hj, rfl, ht, q, rfl⟩ := hrel
      by_cases hlt : j < n
      · obtain ⟨b, o, x, rfl, hx, hcx⟩ := (H1.out).at_ hlt
        obtain ⟨b', o', y, rfl, hy, hcy⟩ := (H2.out).at_ hlt
        have hlt' : (j : Int) < (n : Int) := by omega
        by_cases hxy : x = y
        · subst hxy
          have ht2 : Hid (l.take (j + 1) = k.take (j + 1)) := same_take hx hy ht.out
          have t1 : (x != x) = false := by simp
          clear hx hy
          go_wp2
          go_quiet (fail)
          go_wp2
          go_roundw
          case rel => exact ⟨j + 1, by omega, by go_num, ht2, _, rfl⟩
          case measure => simp [intOf]; omega
        · have hf : Hid ((l == k) = false) := ne_at hx hy hxy
          have t1 : (x != y) = true := by simpa using hxy
          clear hx hy hxy
          go_wp2
          go_quiet (fail)
          go_wp2
          go_ret
          exact ⟨by rw [hf.out]; rfl, _, World.drewN_drewN _ _ _⟩
      · have hjn : j = n := by omega
        subst hjn
        have hf : Hid ((l == k) = true) := by
          show _ = _
          have := ht.out
          rw [List.take_of_length_le (by rw [l1.out]; exact Nat.le_refl _), List.take_of_length_le (by rw [l2.out]; exact Nat.le_refl _)] at this
          rw [this]
          simp
        go_wp2
        go_ret
        exact ⟨by rw [hf.out]; rfl, _, rfl⟩
  · have hf : Hid ((l == k) = false) := by
      show _ = _
      rw [beq_eq_false_iff_ne]
      rintro rfl
      exact hne (l1.out.symm.trans l2.out)
    have t0 : ((n : Int) != (m : Int)) = true := by simp; omega
    go_enter Try.func39, Try.ntmps39
    go_wp2_with fail
    go_ret
    exact ⟨by rw [hf.out]; rfl, 0, rfl⟩
end Go.Proofs.Ytbfefjlilmoigaa
