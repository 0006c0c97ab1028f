/- Walks over gerundref29: what is small, what is great. -/
import Derived.Test.YtbfefjlilmoigaaC1
namespace Go.Proofs.Ytbfefjlilmoigaa
open Go.RowKit
set_option linter.unusedVariables false

set_option maxRecDepth 100000 in
theorem small29_any (x : Int) (w : World) : Calls Try.prog 52 #[.int .i64 x] w fun e w' => e = .returned (.bool (okI x)) ∧ w = w' := by
  unfold okI
  by_cases h : 0 ≤ x
  · have hd : decide (0 ≤ x) = true := decide_eq_true h
    clear h
    rw [hd]
    go_enter Try.func52, Try.ntmps52
    go_wp2_with fail
    go_ret
    exact ⟨by simp, rfl⟩
  · have hd : decide (0 ≤ x) = false := decide_eq_false h
    clear h
    rw [hd]
    go_enter Try.func52, Try.ntmps52
    go_wp2_with fail
    go_ret
    exact ⟨by simp, rfl⟩

/-- How many numbers are looked at: the words' lengths, until there are more than 8000. -/
def manyC : List Cas → Nat → Nat
  | [], n => n
  | x :: l, n => if n ≤ 8000 then manyC l (n + x.word.length) else n
def greatC (l : List Cas) : Bool := decide (2100 < l.length) || decide (8000 < manyC l 0)

theorem manyC_more {l : List Cas} {j : Nat} {x : Cas} {t : Nat} (hx : l[j]? = some x) (ht : t ≤ 8000) : manyC (l.drop j) t = manyC (l.drop (j + 1)) (t + x.word.length) := by
  have hj := (List.getElem?_eq_some_iff.1 hx).1
  rw [List.drop_eq_getElem_cons hj, manyC, if_pos ht]
  have : l[j] = x := by rw [List.getElem?_eq_getElem hj] at hx; exact Option.some.inj hx
  rw [this]
theorem manyC_over (l : List Cas) {t : Nat} (ht : 8000 < t) : manyC l t = t := by
  cases l with
  | nil => rfl
  | cons x l => rw [manyC, if_neg (by omega)]

set_option maxRecDepth 100000 in
theorem great_any (g : Nat) (A : Option Addr) (n c : Nat) (l : List Cas) (w : World) (hl : Cases w A n l) (hok : ∀ x ∈ l, x.ok) :
    Calls Try.prog 34 #[.agg #[.int .u32 (g : Int), .slice A n c]] w fun e w' => e = .returned (.bool (greatC l)) ∧ Below w.heap.size w w' := by
  have HL := hide (hl.below (below_alloc w (.cells #[.int .u32 (g : Int), .slice A n c] 37)))
  have hlen := hide hl.1
  have HK := hide hok
  clear hl hok
  by_cases h21 : 2100 < n
  · have hgt : decide (2100 < (n : Int)) = true := by simp; omega
    have hres : Hid (greatC l = true) := by show _ = _; unfold greatC; rw [hlen.out]; simp [h21]
    go_enter Try.func34, Try.ntmps34
    go_wp2_with fail
    go_ret
    exact ⟨by rw [hres.out]; rfl, below_alloc _ _⟩
  · have hgt : decide (2100 < (n : Int)) = false := by simp; omega
    have hres : Hid (greatC l = decide (8000 < manyC l 0)) := by show _ = _; unfold greatC; rw [hlen.out]; simp [h21]
    have hrow : Row (w.alloc (.cells #[.int .u32 (g : Int), .slice A n c] 37)) w.heap.size 37 #[.int .u32 (g : Int), .slice A n c] := Row.new _ _ _
    have c1 : (w.alloc (.cells #[.int .u32 (g : Int), .slice A n c] 37)).cell? ⟨w.heap.size, 1, none⟩ = some (.slice A n c) := (hrow.cell 1).trans rfl
    clear hrow
    go_enter Try.func34, Try.ntmps34
    go_wp2_with fail
    go_loop [3, 4] (fun s i => ∃ j t : Nat, j ≤ n ∧ i = .int .i64 j ∧ s = .int .i64 t ∧ Hid (manyC (l.drop j) t = manyC l 0)) (fun _ i => n - (intOf i).toNat)
    case atStart => exact ⟨0, 0, by omega, rfl, rfl, rfl⟩
    case round =>
      obtain ⟨j, t, hj, rfl, rfl, hm⟩ := hrel
      by_cases hlt : j < n
      · have hlt' : decide ((j : Int) < (n : Int)) = true := by simp; omega
        by_cases ht : t ≤ 8000
        · have ht' : decide ((t : Int) ≤ 8000) = true := by simp; omega
          obtain ⟨b, o, x, hA, hx, hc⟩ := HL.out.at_ hlt
          subst hA
          obtain ⟨A', c', _, _, h3, _⟩ := hc
          have hxl : x.word.length ≤ 140737488351232 := (HK.out x (List.mem_of_getElem? hx)).2.2.2
          have hm2 : Hid (manyC (l.drop (j + 1)) (t + x.word.length) = manyC l 0) := (manyC_more hx ht).symm.trans hm.out
          clear hx hm
          go_wp2_with fail
          exact ⟨⟨j + 1, t + x.word.length, by omega, by go_num, by go_num, hm2⟩, by simp [intOf]; omega⟩
        · have ht' : decide ((t : Int) ≤ 8000) = false := by simp; omega
          have hgt8 : decide (8000 < (t : Int)) = true := by simp; omega
          have hres2 : Hid (greatC l = true) := by
            show _ = _
            rw [hres.out, ← hm.out, manyC_over _ (by omega)]
            simp; omega
          go_wp2_with fail
          go_ret
          exact ⟨by rw [hres2.out]; rfl, below_alloc _ _⟩
      · have hlt' : decide ((j : Int) < (n : Int)) = false := by simp; omega
        have hres2 : Hid (greatC l = decide (8000 < (t : Int))) := by
          show _ = _
          rw [hres.out, ← hm.out, List.drop_of_length_le (by rw [hlen.out]; omega)]
          rw [manyC]; congr 1; apply propext; omega
        go_wp2_with fail
        go_ret
        exact ⟨by rw [hres2.out]; rfl, below_alloc _ _⟩
end Go.Proofs.Ytbfefjlilmoigaa
