/- Walks over crc: sums, clones, frames. -/
import Derived.Test.YtbfefjlilmoigaaT3
namespace Go.Proofs.Ytbfefjlilmoigaa
open Go.RowKit
set_option linter.unusedVariables false

theorem sum_any (A : Option Addr) (n c : Nat) (bs : List UInt8) (w : World) (hb : Bytes w A n bs) (hn : n ≤ 9223372036854775807) :
    Calls Try.prog 17 #[.slice A n c] w fun e w' => e = .returned (.int .u32 (Crc.more 0 (nums bs))) ∧ Below w.heap.size w w' := by
  have H := hide hb; clear hb
  go_enter Try.func17, Try.ntmps17
  go_wp2_with (go_at_call 19; refine (more_any 0 A n c bs _ (by omega) H.out hn).mono ?_; rintro e w' ⟨rfl, hbel⟩)
  go_ret
  exact ⟨rfl, hbel⟩

theorem rsum_any (A : Option Addr) (n c : Nat) (bs : List UInt8) (w : World) (hb : Bytes w A n bs) (hn : n ≤ 9223372036854775807) :
    Calls Try.prog 18 #[.slice A n c] w fun e w' => e = .returned (.int .u32 (Crc.more 0 (nums bs))) ∧ w = w' := by
  have H := hide hb; clear hb
  go_enter Try.func18, Try.ntmps18
  go_wp2_with (go_at_call 20; refine (rmore_any 0 A n c bs _ (by omega) H.out hn).mono ?_; rintro e w' ⟨rfl, rfl⟩)
  go_ret
  exact ⟨rfl, rfl⟩

theorem equal_any (A B : Option Addr) (n m c d : Nat) (xs ys : List UInt8) (w : World) (hx : Bytes w A n xs) (hy : Bytes w B m ys) :
    Calls Try.prog 48 #[.slice A n c, .slice B m d] w fun e w' => e = .returned (.bool (xs == ys)) ∧ w = w' := by
  have e1 := hx.convert c
  have e2 := hy.convert d
  clear hx hy
  go_enter Try.func48, Try.ntmps48
  go_wp2
  go_ret
  exact ⟨rfl, rfl⟩

theorem clone_any (A : Option Addr) (n c : Nat) (bs : List UInt8) (w : World) (hb : Bytes w A n bs) (hn : n ≤ 1000000000) :
    Calls Try.prog 47 #[.slice A n c] w fun e w' => ∃ v', e = .returned v' ∧ Own w' w.heap.size v' bs ∧ Below w.heap.size w w' := by
  have H := hide hb
  have hl := hb.len
  clear hb
  cases A with
  | none =>
    have hz : n = 0 := by
      by_cases h0 : n = 0
      · exact h0
      · obtain ⟨b, o, e, _⟩ := H.out.2 (by omega); cases e
    subst hz
    obtain rfl : bs = [] := List.eq_nil_of_length_eq_zero hl
    have q : ∀ (w : World) (a : Option Addr) (n c n' c' : Nat), (binOp .eql 22 (.slice a n c) (.slice none n' c')).run Try.prog w = .ok (.bool a.isNone) w := fun w a n c n' c' => Lib.run_eql_slice_nil w _ _ a n c n' c' Try.underlying22
    clear hl
    go_enter Try.func47, Try.ntmps47
    go_wp2
    go_ret
    exact ⟨_, rfl, Own.nil_ _ _, Below.refl _ _⟩
  | some a =>
    have q : ∀ (w : World) (a : Option Addr) (n c n' c' : Nat), (binOp .eql 22 (.slice a n c) (.slice none n' c')).run Try.prog w = .ok (.bool a.isNone) w := fun w a n c n' c' => Lib.run_eql_slice_nil w _ _ a n c n' c' Try.underlying22
    have H2 := hide hl; clear hl
    go_enter Try.func47, Try.ntmps47
    go_wp2_with (at_builtin; refine appB w.heap.size (Own.empty w) (H.out.below ((Below.refl _ _).alloc (Nat.le_refl _) _)) (by simp only [List.length_nil]; omega) (by simp) rfl _ _ rfl rfl _ rfl ?_)
    intro v' w1 hown hbel
    go_wp2
    go_ret
    exact ⟨_, rfl, by simpa using hown, ((Below.refl _ _).alloc (Nat.le_refl _) _).trans hbel⟩
end Go.Proofs.Ytbfefjlilmoigaa
