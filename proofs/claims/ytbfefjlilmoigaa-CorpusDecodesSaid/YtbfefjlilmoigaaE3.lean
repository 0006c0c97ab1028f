/- Walks over corpus and the reference: equal words, equal cases. -/
import Derived.Test.YtbfefjlilmoigaaE2
namespace Go.Proofs.Ytbfefjlilmoigaa
open Go.RowKit
set_option linter.unusedVariables false

set_option maxRecDepth 100000 in
theorem eqI_any (A B : Option Addr) (n m c d : Nat) (l k : List Int) (w : World) (h1 : Ints w A n l) (h2 : Ints w B m k) (hn : n ≤ 9223372036854775807) (hm : m ≤ 9223372036854775807) :
    Calls Try.prog 59 #[.slice A n c, .slice B m d] w fun e w' => e = .returned (.bool (l == k)) ∧ ∃ q, w' = w.drewN q := by
  have H1 := hide h1
  have H2 := hide h2
  have l1 := hide h1.len
  have l2 := hide h2.len
  clear h1 h2
  by_cases hne : n = m
  · subst hne
    have t0 : ((n : Int) != (n : Int)) = false := by simp
    go_enter Try.func59, Try.ntmps59
    go_wp2_with fail
    go_loopw [5, 13] (fun _ i wr => ∃ j : Nat, j ≤ n ∧ i = .int .i64 j ∧ Hid (l.take j = k.take j) ∧ ∃ q, wr = w.drewN q) (fun _ i _ => n - (intOf i).toNat)
    case atStart => exact ⟨0, by omega, rfl, rfl, 0, rfl⟩
    case round =>
      obtain ⟨j, hj, rfl, ht, q, rfl⟩ := hrel
      by_cases hlt : j < n
      · obtain ⟨b, o, x, rfl, hx, hcx⟩ := (H1.out).at_ hlt
        obtain ⟨b', o', y, rfl, hy, hcy⟩ := (H2.out).at_ hlt
        have hlt' : (j : Int) < (n : Int) := by omega
        by_cases hxy : x = y
        · subst hxy
          have ht2 : Hid (l.take (j + 1) = k.take (j + 1)) := same_take hx hy ht.out
          have t1 : (x != x) = false := by simp
          clear hx hy
          go_wp2
          go_quiet (fail)
          go_wp2
          go_roundw
          case rel => exact ⟨j + 1, by omega, by go_num, ht2, _, rfl⟩
          case measure => simp [intOf]; omega
        · have hf : Hid ((l == k) = false) := ne_at hx hy hxy
          have t1 : (x != y) = true := by simpa using hxy
          clear hx hy hxy
          go_wp2
          go_quiet (fail)
          go_wp2
          go_ret
          exact ⟨by rw [hf.out]; rfl, _, World.drewN_drewN _ _ _⟩
      · have hjn : j = n := by omega
        subst hjn
        have hf : Hid ((l == k) = true) := by
          show _ = _
          have := ht.out
          rw [List.take_of_length_le (by rw [l1.out]; exact Nat.le_refl _), List.take_of_length_le (by rw [l2.out]; exact Nat.le_refl _)] at this
          rw [this]
          simp
        go_wp2
        go_ret
        exact ⟨by rw [hf.out]; rfl, _, rfl⟩
  · have hf : Hid ((l == k) = false) := by
      show _ = _
      rw [beq_eq_false_iff_ne]
      rintro rfl
      exact hne (l1.out.symm.trans l2.out)
    have t0 : ((n : Int) != (m : Int)) = true := by simp; omega
    go_enter Try.func59, Try.ntmps59
    go_wp2_with fail
    go_ret
    exact ⟨by rw [hf.out]; rfl, 0, rfl⟩

/-- Two cases, field by field. -/
def sameK (x y : Cas) : Bool := (x.kind == y.kind) && ((x.note == y.note) && (x.word == y.word))
theorem sameK_eq (x y : Cas) : sameK x y = decide (x = y) := by
  obtain ⟨k, q, l⟩ := x
  obtain ⟨k', q', l'⟩ := y
  unfold sameK
  simp only [Cas.mk.injEq]
  rw [Bool.eq_iff_iff]
  simp
def casV (A : Option Addr) (c : Nat) (x : Cas) : Value := .agg #[.int .i64 x.kind, .int .i64 x.note, .slice A x.word.length c]

set_option maxRecDepth 100000 in
theorem eqC_any (A B : Option Addr) (c d : Nat) (x y : Cas) (w : World) (h1 : WordAt w A c x.word) (h2 : WordAt w B d y.word) :
    Calls Try.prog 58 #[.agg #[.int .i64 x.kind, .int .i64 x.note, .slice A x.word.length c], .agg #[.int .i64 y.kind, .int .i64 y.note, .slice B y.word.length d]] w fun e w' => e = .returned (.bool (decide (x = y))) ∧ Below w.heap.size w w' := by
  have hb : Hid (Below w.heap.size w ((w.alloc (.cells #[.int .i64 x.kind, .int .i64 x.note, .slice A x.word.length c] 66)).alloc (.cells #[.int .i64 y.kind, .int .i64 y.note, .slice B y.word.length d] 66))) := ((Below.refl _ _).alloc (Nat.le_refl _) _).alloc (by simp) _
  have r1 : Row ((w.alloc (.cells #[.int .i64 x.kind, .int .i64 x.note, .slice A x.word.length c] 66)).alloc (.cells #[.int .i64 y.kind, .int .i64 y.note, .slice B y.word.length d] 66)) w.heap.size 66 #[.int .i64 x.kind, .int .i64 x.note, .slice A x.word.length c] := (Row.new _ _ _).alloc _
  have r2 : Row ((w.alloc (.cells #[.int .i64 x.kind, .int .i64 x.note, .slice A x.word.length c] 66)).alloc (.cells #[.int .i64 y.kind, .int .i64 y.note, .slice B y.word.length d] 66)) (w.heap.size + 1) 66 #[.int .i64 y.kind, .int .i64 y.note, .slice B y.word.length d] := by
    have := Row.new (w.alloc (.cells #[.int .i64 x.kind, .int .i64 x.note, .slice A x.word.length c] 66)) 66 #[.int .i64 y.kind, .int .i64 y.note, .slice B y.word.length d]
    simpa using this
  have x0 := (r1.cell 0).trans (show _ = some (.int .i64 x.kind) from rfl)
  have x1 := (r1.cell 1).trans (show _ = some (.int .i64 x.note) from rfl)
  have x2 := (r1.cell 2).trans (show _ = some (.slice A x.word.length c) from rfl)
  have y0 := (r2.cell 0).trans (show _ = some (.int .i64 y.kind) from rfl)
  have y1 := (r2.cell 1).trans (show _ = some (.int .i64 y.note) from rfl)
  have y2 := (r2.cell 2).trans (show _ = some (.slice B y.word.length d) from rfl)
  have C := eqI_any A B x.word.length y.word.length c d x.word y.word ((w.alloc (.cells #[.int .i64 x.kind, .int .i64 x.note, .slice A x.word.length c] 66)).alloc (.cells #[.int .i64 y.kind, .int .i64 y.note, .slice B y.word.length d] 66)) (h1.1.below hb.out) (h2.1.below hb.out) (by have := h1.2; omega) (by have := h2.2; omega)
  clear h1 h2 r1 r2
  cases hk : (x.kind == y.kind) with
  | false =>
    have hf : Hid (decide (x = y) = false) := by show _ = _; rw [← sameK_eq]; simp [sameK, hk]
    clear C
    go_enter Try.func58, Try.ntmps58
    go_wp2_with fail
    go_ret
    exact ⟨by rw [hf.out]; rfl, hb.out⟩
  | true =>
    cases hn : (x.note == y.note) with
    | false =>
      have hf : Hid (decide (x = y) = false) := by show _ = _; rw [← sameK_eq]; simp [sameK, hn]
      clear C
      go_enter Try.func58, Try.ntmps58
      go_wp2_with fail
      go_ret
      exact ⟨by rw [hf.out]; rfl, hb.out⟩
    | true =>
      have hf : Hid (decide (x = y) = (x.word == y.word)) := by show _ = _; rw [← sameK_eq]; simp [sameK, hn, hk]
      go_enter Try.func58, Try.ntmps58
      go_wp2_with fail
      refine C.mono ?_
      rintro e w2 ⟨rfl, q, rfl⟩
      clear C
      go_wp2_with fail
      go_ret
      exact ⟨by rw [hf.out]; rfl, below_drewN' hb.out q⟩

set_option maxRecDepth 100000 in
theorem one28_any (A B : Option Addr) (c d : Nat) (x y : Cas) (w : World) (h1 : WordAt w A c x.word) (h2 : WordAt w B d y.word) :
    Calls Try.prog 66 #[.agg #[.int .i64 x.kind, .int .i64 x.note, .slice A x.word.length c], .agg #[.int .i64 y.kind, .int .i64 y.note, .slice B y.word.length d]] w fun e w' => e = .returned (.bool (decide (x = y))) ∧ Below w.heap.size w w' := by
  have hb : Hid (Below w.heap.size w ((w.alloc (.cells #[.int .i64 x.kind, .int .i64 x.note, .slice A x.word.length c] 66)).alloc (.cells #[.int .i64 y.kind, .int .i64 y.note, .slice B y.word.length d] 66))) := ((Below.refl _ _).alloc (Nat.le_refl _) _).alloc (by simp) _
  have r1 : Row ((w.alloc (.cells #[.int .i64 x.kind, .int .i64 x.note, .slice A x.word.length c] 66)).alloc (.cells #[.int .i64 y.kind, .int .i64 y.note, .slice B y.word.length d] 66)) w.heap.size 66 #[.int .i64 x.kind, .int .i64 x.note, .slice A x.word.length c] := (Row.new _ _ _).alloc _
  have r2 : Row ((w.alloc (.cells #[.int .i64 x.kind, .int .i64 x.note, .slice A x.word.length c] 66)).alloc (.cells #[.int .i64 y.kind, .int .i64 y.note, .slice B y.word.length d] 66)) (w.heap.size + 1) 66 #[.int .i64 y.kind, .int .i64 y.note, .slice B y.word.length d] := by
    have := Row.new (w.alloc (.cells #[.int .i64 x.kind, .int .i64 x.note, .slice A x.word.length c] 66)) 66 #[.int .i64 y.kind, .int .i64 y.note, .slice B y.word.length d]
    simpa using this
  have x0 := (r1.cell 0).trans (show _ = some (.int .i64 x.kind) from rfl)
  have x1 := (r1.cell 1).trans (show _ = some (.int .i64 x.note) from rfl)
  have x2 := (r1.cell 2).trans (show _ = some (.slice A x.word.length c) from rfl)
  have y0 := (r2.cell 0).trans (show _ = some (.int .i64 y.kind) from rfl)
  have y1 := (r2.cell 1).trans (show _ = some (.int .i64 y.note) from rfl)
  have y2 := (r2.cell 2).trans (show _ = some (.slice B y.word.length d) from rfl)
  have C := rints_any A B x.word.length y.word.length c d x.word y.word ((w.alloc (.cells #[.int .i64 x.kind, .int .i64 x.note, .slice A x.word.length c] 66)).alloc (.cells #[.int .i64 y.kind, .int .i64 y.note, .slice B y.word.length d] 66)) (h1.1.below hb.out) (h2.1.below hb.out) (by have := h1.2; omega) (by have := h2.2; omega)
  clear h1 h2 r1 r2
  cases hk : (x.kind == y.kind) with
  | false =>
    have hf : Hid (decide (x = y) = false) := by show _ = _; rw [← sameK_eq]; simp [sameK, hk]
    clear C
    go_enter Try.func66, Try.ntmps66
    go_wp2_with fail
    go_ret
    exact ⟨by rw [hf.out]; rfl, hb.out⟩
  | true =>
    cases hn : (x.note == y.note) with
    | false =>
      have hf : Hid (decide (x = y) = false) := by show _ = _; rw [← sameK_eq]; simp [sameK, hn]
      clear C
      go_enter Try.func66, Try.ntmps66
      go_wp2_with fail
      go_ret
      exact ⟨by rw [hf.out]; rfl, hb.out⟩
    | true =>
      have hf : Hid (decide (x = y) = (x.word == y.word)) := by show _ = _; rw [← sameK_eq]; simp [sameK, hn, hk]
      go_enter Try.func66, Try.ntmps66
      go_wp2_with fail
      refine C.mono ?_
      rintro e w2 ⟨rfl, q, rfl⟩
      clear C
      go_wp2_with fail
      go_ret
      exact ⟨by rw [hf.out]; rfl, below_drewN' hb.out q⟩
end Go.Proofs.Ytbfefjlilmoigaa
