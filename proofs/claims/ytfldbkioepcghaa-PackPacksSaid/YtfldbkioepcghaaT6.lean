/- Walks over pack: closures, the first that fits, whether one does, whether columns rise. -/
import Derived.Test.YtfldbkioepcghaaT5
namespace Go.Proofs.Ytfldbkioepcghaa
open Go.RowKit
set_option linter.unusedVariables false

theorem eql43 (a b c d : Int) (w : World) : (binOp .eql 43 (.agg #[.int .i64 a, .int .i64 b]) (.agg #[.int .i64 c, .int .i64 d])).run Try.prog w = .ok (.bool (decide ((a, b) = (c, d)))) w := by
  go_simp
  by_cases h1 : a = c <;> by_cases h2 : b = d <;> simp [h1, h2]

def pEmpty (x : Int × Int × Int) : Bool := decide (x.2.1 = 0) && decide (x.2.2 = 0)
def pNone (x : Int × Int) : Bool := x.2 == -1
def pCol3 (z : Int) (x : Int × Int × Int) : Bool := x.1 == z
def pCol2 (z : Int) (x : Int × Int) : Bool := x.1 == z
def pOut (most : Int) (z : Int) : Bool := decide (z < 0) || decide (most ≤ z)

/-- Where the first is that fits, or -1. -/
def fidx {α : Type} (p : α → Bool) : List α → Nat → Int
  | [], _ => -1
  | x :: l, i => if p x then (i : Int) else fidx p l (i + 1)
theorem fidx_found {α : Type} {p : α → Bool} : ∀ {l : List α} {x : α} {i j : Nat}, (l.take j).all (fun y => !p y) = true → l[j]? = some x → p x = true → fidx p l i = ((i + j : Nat) : Int)
  | [], x, i, j, _, h, _ => by simp at h
  | y :: l, x, i, 0, _, h, hp => by
    obtain rfl : y = x := by simpa using h
    simp [fidx, hp]
  | y :: l, x, i, j + 1, ht, h, hp => by
    have h' : l[j]? = some x := by simpa using h
    rw [List.take_succ_cons, List.all_cons, Bool.and_eq_true] at ht
    have hy : ¬ p y = true := by simpa using ht.1
    rw [fidx, if_neg hy, fidx_found ht.2 h' hp]
    congr 1; omega
theorem fidx_none {α : Type} {p : α → Bool} : ∀ {l : List α} {i : Nat}, l.all (fun y => !p y) = true → fidx p l i = -1
  | [], i, _ => rfl
  | y :: l, i, ht => by
    rw [List.all_cons, Bool.and_eq_true] at ht
    have hy : ¬ p y = true := by simpa using ht.1
    rw [fidx, if_neg hy, fidx_none ht.2]
theorem fidx_cases {α : Type} (p : α → Bool) : ∀ (l : List α) (i : Nat), (fidx p l i = -1 ∧ l.any p = false) ∨ ∃ (j : Nat) (x : α), fidx p l i = ((i + j : Nat) : Int) ∧ l[j]? = some x ∧ p x = true ∧ l.any p = true
  | [], i => .inl ⟨rfl, rfl⟩
  | y :: l, i => by
    by_cases h : p y = true
    · exact .inr ⟨0, y, by rw [fidx, if_pos h]; rfl, rfl, h, by simp [h]⟩
    · rcases fidx_cases p l (i + 1) with ⟨h1, h2⟩ | ⟨j, x, h1, h2, h3, h4⟩
      · exact .inl ⟨by rw [fidx, if_neg h, h1], by simp [h, h2]⟩
      · exact .inr ⟨j + 1, x, by rw [fidx, if_neg h, h1]; congr 1; omega, by simpa using h2, h3, by simp [h4]⟩
theorem fidx_any {α : Type} (p : α → Bool) (l : List α) : decide (0 ≤ fidx p l 0) = l.any p := by
  rcases fidx_cases p l 0 with ⟨h1, h2⟩ | ⟨j, x, h1, _, _, h4⟩
  · rw [h1, h2]; rfl
  · rw [h1, h4]; exact decide_eq_true (by omega)

set_option maxRecDepth 100000 in
theorem clo_44 (x : Int × Int × Int) (w : World) : Calls Try.prog 44 #[.agg #[.int .i64 x.1, .int .i64 x.2.1, .int .i64 x.2.2]] w (EqPost w (pEmpty x)) := by
  have r1 : Row (w.alloc (.cells #[.int .i64 x.1, .int .i64 x.2.1, .int .i64 x.2.2] 54)) w.heap.size 54 #[.int .i64 x.1, .int .i64 x.2.1, .int .i64 x.2.2] := Row.new _ _ _
  have c1 := (r1.cell 1).trans (show _ = some (.int .i64 x.2.1) from rfl)
  have c2 := (r1.cell 2).trans (show _ = some (.int .i64 x.2.2) from rfl)
  have q := eql43 x.2.1 x.2.2 0 0
  clear r1
  go_enter Try.func44, Try.ntmps44
  go_wp2_with fail
  go_ret
  exact ⟨rfl, below_alloc _ _⟩

set_option maxRecDepth 100000 in
theorem clo_48 (x : Int × Int) (w : World) : Calls Try.prog 48 #[.agg #[.int .i64 x.1, .int .i64 x.2]] w (EqPost w (pNone x)) := by
  have r1 : Row (w.alloc (.cells #[.int .i64 x.1, .int .i64 x.2] 59)) w.heap.size 59 #[.int .i64 x.1, .int .i64 x.2] := Row.new _ _ _
  have c1 := (r1.cell 1).trans (show _ = some (.int .i64 x.2) from rfl)
  clear r1
  go_enter Try.func48, Try.ntmps48
  go_wp2_with fail
  go_ret
  exact ⟨rfl, below_alloc _ _⟩

set_option maxRecDepth 100000 in
theorem clo_55 (p : Nat) (z : Int) (x : Int × Int × Int) (w : World) (hp : Row w p 3 #[.int .i64 z]) : Calls Try.prog 55 #[.agg #[.int .i64 x.1, .int .i64 x.2.1, .int .i64 x.2.2], .pointer (some ⟨p, 0, none⟩)] w (EqPost w (pCol3 z x)) := by
  have r1 : Row (w.alloc (.cells #[.int .i64 x.1, .int .i64 x.2.1, .int .i64 x.2.2] 54)) w.heap.size 54 #[.int .i64 x.1, .int .i64 x.2.1, .int .i64 x.2.2] := Row.new _ _ _
  have c0 := (r1.cell 0).trans (show _ = some (.int .i64 x.1) from rfl)
  have c1 := ((hp.alloc (.cells #[.int .i64 x.1, .int .i64 x.2.1, .int .i64 x.2.2] 54)).cell 0).trans (show _ = some (.int .i64 z) from rfl)
  clear r1 hp
  go_enter Try.func55, Try.ntmps55
  go_wp2_with fail
  go_ret
  exact ⟨rfl, below_alloc _ _⟩

set_option maxRecDepth 100000 in
theorem clo_57 (p : Nat) (z : Int) (x : Int × Int) (w : World) (hp : Row w p 3 #[.int .i64 z]) : Calls Try.prog 57 #[.agg #[.int .i64 x.1, .int .i64 x.2], .pointer (some ⟨p, 0, none⟩)] w (EqPost w (pCol2 z x)) := by
  have r1 : Row (w.alloc (.cells #[.int .i64 x.1, .int .i64 x.2] 59)) w.heap.size 59 #[.int .i64 x.1, .int .i64 x.2] := Row.new _ _ _
  have c0 := (r1.cell 0).trans (show _ = some (.int .i64 x.1) from rfl)
  have c1 := ((hp.alloc (.cells #[.int .i64 x.1, .int .i64 x.2] 59)).cell 0).trans (show _ = some (.int .i64 z) from rfl)
  clear r1 hp
  go_enter Try.func57, Try.ntmps57
  go_wp2_with fail
  go_ret
  exact ⟨rfl, below_alloc _ _⟩

set_option maxRecDepth 100000 in
theorem clo_64 (p : Nat) (most z : Int) (w : World) (hp : Row w p 3 #[.int .i64 most]) : Calls Try.prog 64 #[.int .i64 z, .pointer (some ⟨p, 0, none⟩)] w (EqPost w (pOut most z)) := by
  have c1 := (hp.cell 0).trans (show _ = some (.int .i64 most) from rfl)
  clear hp
  by_cases h : z < 0
  · have t1 : decide (z < 0) = true := decide_eq_true h
    clear h
    go_enter Try.func64, Try.ntmps64
    go_wp2_with fail
    go_ret
    exact ⟨by unfold pOut; rw [t1]; rfl, Below.refl _ _⟩
  · have t1 : decide (z < 0) = false := decide_eq_false h
    clear h
    go_enter Try.func64, Try.ntmps64
    go_wp2_with fail
    go_ret
    exact ⟨by unfold pOut; rw [t1]; rfl, Below.refl _ _⟩

set_option maxRecDepth 100000 in
theorem clo_42 (x : Int × Int × Int) (w : World) : Calls Try.prog 42 #[.agg #[.int .i64 x.1, .int .i64 x.2.1, .int .i64 x.2.2]] w (IdxPost w x.1) := by
  have r1 : Row (w.alloc (.cells #[.int .i64 x.1, .int .i64 x.2.1, .int .i64 x.2.2] 54)) w.heap.size 54 #[.int .i64 x.1, .int .i64 x.2.1, .int .i64 x.2.2] := Row.new _ _ _
  have c0 := (r1.cell 0).trans (show _ = some (.int .i64 x.1) from rfl)
  clear r1
  go_enter Try.func42, Try.ntmps42
  go_wp2_with fail
  go_ret
  exact ⟨rfl, below_alloc _ _⟩
set_option maxRecDepth 100000 in
theorem clo_46 (x : Int × Int) (w : World) : Calls Try.prog 46 #[.agg #[.int .i64 x.1, .int .i64 x.2]] w (IdxPost w x.1) := by
  have r1 : Row (w.alloc (.cells #[.int .i64 x.1, .int .i64 x.2] 59)) w.heap.size 59 #[.int .i64 x.1, .int .i64 x.2] := Row.new _ _ _
  have c0 := (r1.cell 0).trans (show _ = some (.int .i64 x.1) from rfl)
  clear r1
  go_enter Try.func46, Try.ntmps46
  go_wp2_with fail
  go_ret
  exact ⟨rfl, below_alloc _ _⟩

/-- Do columns rise, from above one to below another? -/
def riseL : List Int → Int → Int → Bool
  | [], _, _ => true
  | x :: l, most, last => !decide (x ≤ last) && (!decide (most ≤ x) && riseL l most x)

set_option maxHeartbeats 1000000 in
set_option maxRecDepth 100000 in
theorem fidx_44 (A : Option Addr) (n c : Nat) (l : List (Int × Int × Int)) (w : World) (h : In w 3 f3 A n l) (hn : n ≤ 9223372036854775807) :
    Calls Try.prog 54 #[.slice A n c, .func (.func 44) #[] #[]] w (IdxPost w (fidx pEmpty l 0)) := by
  have H := hide h
  have hlen := hide h.1
  clear h
  go_enter Try.func54, Try.ntmps54
  go_wp2_with fail
  go_loopw [5, 8] (fun _ i wr => ∃ j : Nat, j ≤ n ∧ i = .int .i64 j ∧ Hid ((l.take j).all (fun y => !pEmpty y) = true) ∧ Hid (Below w.heap.size w wr)) (fun _ i _ => n - (intOf i).toNat)
  case atStart => exact ⟨0, by omega, rfl, rfl, Below.refl _ _⟩
  case round =>
    obtain ⟨j, hj, rfl, ht, hb⟩ := hrel
    by_cases hlt : j < n
    · have hlt' : decide ((j : Int) < (n : Int)) = true := by simp; omega
      have hltp : (j : Int) < (n : Int) := by omega
      obtain ⟨b, o, x, rfl, hx, z0, z1, z2⟩ := (H.out.below hb.out).at3 hlt
      have C := clo_44 x wr
      have hX := hide hx
      clear hx
      cases hp : pEmpty x with
      | true =>
        have hf : Hid (fidx pEmpty l 0 = (j : Int)) := by show _ = _; rw [fidx_found ht.out hX.out hp, Nat.zero_add]
        rw [hp] at C
        clear hX hp ht
        go_wp2_with fail
        refine C.mono ?_
        rintro e w3 ⟨rfl, hb3⟩
        have hb4 := hide (below_both hb.out hb3 hb.out.size)
        clear C hb3
        go_wp2_with fail
        go_ret
        exact ⟨by rw [hf.out]; rfl, hb4.out⟩
      | false =>
        have ht2 : Hid ((l.take (j + 1)).all (fun y => !pEmpty y) = true) := all_take hX.out (by simp [hp]) ht.out
        rw [hp] at C
        clear hX hp ht
        go_wp2_with fail
        refine C.mono ?_
        rintro e w3 ⟨rfl, hb3⟩
        have hb4 := hide (below_both hb.out hb3 hb.out.size)
        clear C hb3
        go_wp2_with fail
        exact ⟨⟨j + 1, by omega, by go_num, ht2, hb4⟩, by simp [intOf]; omega⟩
    · have hlt' : decide ((j : Int) < (n : Int)) = false := by simp; omega
      have hf : Hid (fidx pEmpty l 0 = -1) := fidx_none (all_end (by rw [hlen.out]; omega) ht.out)
      go_wp2_with fail
      go_ret
      exact ⟨by rw [hf.out]; rfl, hb.out⟩

set_option maxRecDepth 100000 in
theorem has_44 (A : Option Addr) (n c : Nat) (l : List (Int × Int × Int)) (w : World) (h : In w 3 f3 A n l) (hn : n ≤ 9223372036854775807) :
    Calls Try.prog 43 #[.slice A n c, .func (.func 44) #[] #[]] w (EqPost w (l.any pEmpty)) := by
  have C := fidx_44 A n c l w h hn
  clear h
  have hz := fidx_any pEmpty l
  generalize l.any pEmpty = r at *
  generalize fidx pEmpty l 0 = z at *
  cases r with
  | true =>
    go_enter Try.func43, Try.ntmps43
    go_wp2_with fail
    refine C.mono ?_
    rintro e w1 ⟨rfl, hb⟩
    go_wp2_with fail
    go_ret
    exact ⟨rfl, hb⟩
  | false =>
    go_enter Try.func43, Try.ntmps43
    go_wp2_with fail
    refine C.mono ?_
    rintro e w1 ⟨rfl, hb⟩
    go_wp2_with fail
    go_ret
    exact ⟨rfl, hb⟩

set_option maxHeartbeats 1000000 in
set_option maxRecDepth 100000 in
theorem fidx_48 (A : Option Addr) (n c : Nat) (l : List (Int × Int)) (w : World) (h : In w 2 f2 A n l) (hn : n ≤ 9223372036854775807) :
    Calls Try.prog 56 #[.slice A n c, .func (.func 48) #[] #[]] w (IdxPost w (fidx pNone l 0)) := by
  have H := hide h
  have hlen := hide h.1
  clear h
  go_enter Try.func56, Try.ntmps56
  go_wp2_with fail
  go_loopw [5, 8] (fun _ i wr => ∃ j : Nat, j ≤ n ∧ i = .int .i64 j ∧ Hid ((l.take j).all (fun y => !pNone y) = true) ∧ Hid (Below w.heap.size w wr)) (fun _ i _ => n - (intOf i).toNat)
  case atStart => exact ⟨0, by omega, rfl, rfl, Below.refl _ _⟩
  case round =>
    obtain ⟨j, hj, rfl, ht, hb⟩ := hrel
    by_cases hlt : j < n
    · have hlt' : decide ((j : Int) < (n : Int)) = true := by simp; omega
      have hltp : (j : Int) < (n : Int) := by omega
      obtain ⟨b, o, x, rfl, hx, z0, z1⟩ := (H.out.below hb.out).at2 hlt
      have C := clo_48 x wr
      have hX := hide hx
      clear hx
      cases hp : pNone x with
      | true =>
        have hf : Hid (fidx pNone l 0 = (j : Int)) := by show _ = _; rw [fidx_found ht.out hX.out hp, Nat.zero_add]
        rw [hp] at C
        clear hX hp ht
        go_wp2_with fail
        refine C.mono ?_
        rintro e w3 ⟨rfl, hb3⟩
        have hb4 := hide (below_both hb.out hb3 hb.out.size)
        clear C hb3
        go_wp2_with fail
        go_ret
        exact ⟨by rw [hf.out]; rfl, hb4.out⟩
      | false =>
        have ht2 : Hid ((l.take (j + 1)).all (fun y => !pNone y) = true) := all_take hX.out (by simp [hp]) ht.out
        rw [hp] at C
        clear hX hp ht
        go_wp2_with fail
        refine C.mono ?_
        rintro e w3 ⟨rfl, hb3⟩
        have hb4 := hide (below_both hb.out hb3 hb.out.size)
        clear C hb3
        go_wp2_with fail
        exact ⟨⟨j + 1, by omega, by go_num, ht2, hb4⟩, by simp [intOf]; omega⟩
    · have hlt' : decide ((j : Int) < (n : Int)) = false := by simp; omega
      have hf : Hid (fidx pNone l 0 = -1) := fidx_none (all_end (by rw [hlen.out]; omega) ht.out)
      go_wp2_with fail
      go_ret
      exact ⟨by rw [hf.out]; rfl, hb.out⟩

set_option maxRecDepth 100000 in
theorem has_48 (A : Option Addr) (n c : Nat) (l : List (Int × Int)) (w : World) (h : In w 2 f2 A n l) (hn : n ≤ 9223372036854775807) :
    Calls Try.prog 47 #[.slice A n c, .func (.func 48) #[] #[]] w (EqPost w (l.any pNone)) := by
  have C := fidx_48 A n c l w h hn
  clear h
  have hz := fidx_any pNone l
  generalize l.any pNone = r at *
  generalize fidx pNone l 0 = z at *
  cases r with
  | true =>
    go_enter Try.func47, Try.ntmps47
    go_wp2_with fail
    refine C.mono ?_
    rintro e w1 ⟨rfl, hb⟩
    go_wp2_with fail
    go_ret
    exact ⟨rfl, hb⟩
  | false =>
    go_enter Try.func47, Try.ntmps47
    go_wp2_with fail
    refine C.mono ?_
    rintro e w1 ⟨rfl, hb⟩
    go_wp2_with fail
    go_ret
    exact ⟨rfl, hb⟩

set_option maxHeartbeats 1000000 in
set_option maxRecDepth 100000 in
theorem fidx_55 (p : Nat) (z : Int) (A : Option Addr) (n c : Nat) (l : List (Int × Int × Int)) (w : World) (h : In w 3 f3 A n l) (hn : n ≤ 9223372036854775807) (hp : Row w p 3 #[.int .i64 z]) :
    Calls Try.prog 54 #[.slice A n c, .func (.func 55) #[] #[.pointer (some ⟨p, 0, none⟩)]] w (IdxPost w (fidx (pCol3 z) l 0)) := by
  have H := hide h
  have hlen := hide h.1
  have HP := hide hp
  clear h hp
  go_enter Try.func54, Try.ntmps54
  go_wp2_with fail
  go_loopw [5, 8] (fun _ i wr => ∃ j : Nat, j ≤ n ∧ i = .int .i64 j ∧ Hid ((l.take j).all (fun y => !(pCol3 z) y) = true) ∧ Hid (Below w.heap.size w wr)) (fun _ i _ => n - (intOf i).toNat)
  case atStart => exact ⟨0, by omega, rfl, rfl, Below.refl _ _⟩
  case round =>
    obtain ⟨j, hj, rfl, ht, hb⟩ := hrel
    by_cases hlt : j < n
    · have hlt' : decide ((j : Int) < (n : Int)) = true := by simp; omega
      have hltp : (j : Int) < (n : Int) := by omega
      obtain ⟨b, o, x, rfl, hx, z0, z1, z2⟩ := (H.out.below hb.out).at3 hlt
      have C := clo_55 p z x wr (HP.out.below hb.out HP.out.lt)
      have hX := hide hx
      clear hx
      cases hp : (pCol3 z) x with
      | true =>
        have hf : Hid (fidx (pCol3 z) l 0 = (j : Int)) := by show _ = _; rw [fidx_found ht.out hX.out hp, Nat.zero_add]
        rw [hp] at C
        clear hX hp ht
        go_wp2_with fail
        refine C.mono ?_
        rintro e w3 ⟨rfl, hb3⟩
        have hb4 := hide (below_both hb.out hb3 hb.out.size)
        clear C hb3
        go_wp2_with fail
        go_ret
        exact ⟨by rw [hf.out]; rfl, hb4.out⟩
      | false =>
        have ht2 : Hid ((l.take (j + 1)).all (fun y => !(pCol3 z) y) = true) := all_take hX.out (by simp [hp]) ht.out
        rw [hp] at C
        clear hX hp ht
        go_wp2_with fail
        refine C.mono ?_
        rintro e w3 ⟨rfl, hb3⟩
        have hb4 := hide (below_both hb.out hb3 hb.out.size)
        clear C hb3
        go_wp2_with fail
        exact ⟨⟨j + 1, by omega, by go_num, ht2, hb4⟩, by simp [intOf]; omega⟩
    · have hlt' : decide ((j : Int) < (n : Int)) = false := by simp; omega
      have hf : Hid (fidx (pCol3 z) l 0 = -1) := fidx_none (all_end (by rw [hlen.out]; omega) ht.out)
      go_wp2_with fail
      go_ret
      exact ⟨by rw [hf.out]; rfl, hb.out⟩

set_option maxHeartbeats 1000000 in
set_option maxRecDepth 100000 in
theorem fidx_57 (p : Nat) (z : Int) (A : Option Addr) (n c : Nat) (l : List (Int × Int)) (w : World) (h : In w 2 f2 A n l) (hn : n ≤ 9223372036854775807) (hp : Row w p 3 #[.int .i64 z]) :
    Calls Try.prog 56 #[.slice A n c, .func (.func 57) #[] #[.pointer (some ⟨p, 0, none⟩)]] w (IdxPost w (fidx (pCol2 z) l 0)) := by
  have H := hide h
  have hlen := hide h.1
  have HP := hide hp
  clear h hp
  go_enter Try.func56, Try.ntmps56
  go_wp2_with fail
  go_loopw [5, 8] (fun _ i wr => ∃ j : Nat, j ≤ n ∧ i = .int .i64 j ∧ Hid ((l.take j).all (fun y => !(pCol2 z) y) = true) ∧ Hid (Below w.heap.size w wr)) (fun _ i _ => n - (intOf i).toNat)
  case atStart => exact ⟨0, by omega, rfl, rfl, Below.refl _ _⟩
  case round =>
    obtain ⟨j, hj, rfl, ht, hb⟩ := hrel
    by_cases hlt : j < n
    · have hlt' : decide ((j : Int) < (n : Int)) = true := by simp; omega
      have hltp : (j : Int) < (n : Int) := by omega
      obtain ⟨b, o, x, rfl, hx, z0, z1⟩ := (H.out.below hb.out).at2 hlt
      have C := clo_57 p z x wr (HP.out.below hb.out HP.out.lt)
      have hX := hide hx
      clear hx
      cases hp : (pCol2 z) x with
      | true =>
        have hf : Hid (fidx (pCol2 z) l 0 = (j : Int)) := by show _ = _; rw [fidx_found ht.out hX.out hp, Nat.zero_add]
        rw [hp] at C
        clear hX hp ht
        go_wp2_with fail
        refine C.mono ?_
        rintro e w3 ⟨rfl, hb3⟩
        have hb4 := hide (below_both hb.out hb3 hb.out.size)
        clear C hb3
        go_wp2_with fail
        go_ret
        exact ⟨by rw [hf.out]; rfl, hb4.out⟩
      | false =>
        have ht2 : Hid ((l.take (j + 1)).all (fun y => !(pCol2 z) y) = true) := all_take hX.out (by simp [hp]) ht.out
        rw [hp] at C
        clear hX hp ht
        go_wp2_with fail
        refine C.mono ?_
        rintro e w3 ⟨rfl, hb3⟩
        have hb4 := hide (below_both hb.out hb3 hb.out.size)
        clear C hb3
        go_wp2_with fail
        exact ⟨⟨j + 1, by omega, by go_num, ht2, hb4⟩, by simp [intOf]; omega⟩
    · have hlt' : decide ((j : Int) < (n : Int)) = false := by simp; omega
      have hf : Hid (fidx (pCol2 z) l 0 = -1) := fidx_none (all_end (by rw [hlen.out]; omega) ht.out)
      go_wp2_with fail
      go_ret
      exact ⟨by rw [hf.out]; rfl, hb.out⟩

set_option maxHeartbeats 1000000 in
set_option maxRecDepth 100000 in
theorem fidx_64 (p : Nat) (most : Int) (A : Option Addr) (n c : Nat) (l : List Int) (w : World) (h : In w 1 f1 A n l) (hn : n ≤ 9223372036854775807) (hp : Row w p 3 #[.int .i64 most]) :
    Calls Try.prog 67 #[.slice A n c, .func (.func 64) #[] #[.pointer (some ⟨p, 0, none⟩)]] w (IdxPost w (fidx (pOut most) l 0)) := by
  have H := hide h
  have hlen := hide h.1
  have HP := hide hp
  clear h hp
  go_enter Try.func67, Try.ntmps67
  go_wp2_with fail
  go_loopw [5, 8] (fun _ i wr => ∃ j : Nat, j ≤ n ∧ i = .int .i64 j ∧ Hid ((l.take j).all (fun y => !(pOut most) y) = true) ∧ Hid (Below w.heap.size w wr)) (fun _ i _ => n - (intOf i).toNat)
  case atStart => exact ⟨0, by omega, rfl, rfl, Below.refl _ _⟩
  case round =>
    obtain ⟨j, hj, rfl, ht, hb⟩ := hrel
    by_cases hlt : j < n
    · have hlt' : decide ((j : Int) < (n : Int)) = true := by simp; omega
      have hltp : (j : Int) < (n : Int) := by omega
      obtain ⟨b, o, x, rfl, hx, z0⟩ := (H.out.below hb.out).at1 hlt
      have C := clo_64 p most x wr (HP.out.below hb.out HP.out.lt)
      have hX := hide hx
      clear hx
      cases hp : (pOut most) x with
      | true =>
        have hf : Hid (fidx (pOut most) l 0 = (j : Int)) := by show _ = _; rw [fidx_found ht.out hX.out hp, Nat.zero_add]
        rw [hp] at C
        clear hX hp ht
        go_wp2_with fail
        refine C.mono ?_
        rintro e w3 ⟨rfl, hb3⟩
        have hb4 := hide (below_both hb.out hb3 hb.out.size)
        clear C hb3
        go_wp2_with fail
        go_ret
        exact ⟨by rw [hf.out]; rfl, hb4.out⟩
      | false =>
        have ht2 : Hid ((l.take (j + 1)).all (fun y => !(pOut most) y) = true) := all_take hX.out (by simp [hp]) ht.out
        rw [hp] at C
        clear hX hp ht
        go_wp2_with fail
        refine C.mono ?_
        rintro e w3 ⟨rfl, hb3⟩
        have hb4 := hide (below_both hb.out hb3 hb.out.size)
        clear C hb3
        go_wp2_with fail
        exact ⟨⟨j + 1, by omega, by go_num, ht2, hb4⟩, by simp [intOf]; omega⟩
    · have hlt' : decide ((j : Int) < (n : Int)) = false := by simp; omega
      have hf : Hid (fidx (pOut most) l 0 = -1) := fidx_none (all_end (by rw [hlen.out]; omega) ht.out)
      go_wp2_with fail
      go_ret
      exact ⟨by rw [hf.out]; rfl, hb.out⟩

set_option maxRecDepth 100000 in
theorem has_64 (p : Nat) (most : Int) (A : Option Addr) (n c : Nat) (l : List Int) (w : World) (h : In w 1 f1 A n l) (hn : n ≤ 9223372036854775807) (hp : Row w p 3 #[.int .i64 most]) :
    Calls Try.prog 63 #[.slice A n c, .func (.func 64) #[] #[.pointer (some ⟨p, 0, none⟩)]] w (EqPost w (l.any (pOut most))) := by
  have C := fidx_64 p most A n c l w h hn hp
  clear h
  have hz := fidx_any (pOut most) l
  generalize l.any (pOut most) = r at *
  generalize fidx (pOut most) l 0 = z at *
  cases r with
  | true =>
    go_enter Try.func63, Try.ntmps63
    go_wp2_with fail
    refine C.mono ?_
    rintro e w1 ⟨rfl, hb⟩
    go_wp2_with fail
    go_ret
    exact ⟨rfl, hb⟩
  | false =>
    go_enter Try.func63, Try.ntmps63
    go_wp2_with fail
    refine C.mono ?_
    rintro e w1 ⟨rfl, hb⟩
    go_wp2_with fail
    go_ret
    exact ⟨rfl, hb⟩

set_option maxHeartbeats 1000000 in
set_option maxRecDepth 100000 in
theorem rise_41 (A : Option Addr) (n c : Nat) (l : List (Int × Int × Int)) (most : Int) (w : World) (h : In w 3 f3 A n l) (hn : n ≤ 9223372036854775807) :
    Calls Try.prog 41 #[.slice A n c, .int .i64 most, .func (.func 42) #[] #[]] w (EqPost w (riseL (l.map (·.1)) most (-1))) := by
  have H := hide h
  have hlen := hide h.1
  clear h
  go_enter Try.func41, Try.ntmps41
  go_wp2_with fail
  go_loopw [7, 12] (fun la i wr => ∃ (j : Nat) (last : Int), j ≤ n ∧ i = .int .i64 j ∧ la = .int .i64 last ∧ Hid (riseL ((l.map (·.1)).drop j) most last = riseL (l.map (·.1)) most (-1)) ∧ Hid (Below w.heap.size w wr)) (fun _ i _ => n - (intOf i).toNat)
  case atStart => exact ⟨0, -1, by omega, rfl, rfl, rfl, Below.refl _ _⟩
  case round =>
    obtain ⟨j, last, hj, rfl, rfl, ht, hb⟩ := hrel
    by_cases hlt : j < n
    · have hlt' : decide ((j : Int) < (n : Int)) = true := by simp; omega
      have hltp : (j : Int) < (n : Int) := by omega
      obtain ⟨b, o, x, rfl, hx, z0, z1, z2⟩ := (H.out.below hb.out).at3 hlt
      have ht2 : Hid ((!decide (x.1 ≤ last) && (!decide (most ≤ x.1) && riseL ((l.map (·.1)).drop (j + 1)) most x.1)) = riseL (l.map (·.1)) most (-1)) := by
        show _ = _
        have h1 := ht.out
        have hm : (l.map (·.1))[j]? = some x.1 := by simp [hx]
        have hjl := (List.getElem?_eq_some_iff.1 hm).1
        rw [List.drop_eq_getElem_cons hjl, show (l.map (·.1))[j] = x.1 by rw [List.getElem?_eq_getElem hjl] at hm; exact Option.some.inj hm, riseL] at h1
        exact h1
      have r4 : Hid (Row (wr.alloc (.cells #[.int .i64 x.1, .int .i64 x.2.1, .int .i64 x.2.2] 54)) wr.heap.size 54 #[.int .i64 x.1, .int .i64 x.2.1, .int .i64 x.2.2]) := Row.new _ _ _
      have hb4 : Hid (Below w.heap.size w (wr.alloc (.cells #[.int .i64 x.1, .int .i64 x.2.1, .int .i64 x.2.2] 54))) := hb.out.alloc hb.out.size _
      have y0 := (r4.out.cell 0).trans (show _ = some (.int .i64 x.1) from rfl)
      have y1 := (r4.out.cell 1).trans (show _ = some (.int .i64 x.2.1) from rfl)
      have y2 := (r4.out.cell 2).trans (show _ = some (.int .i64 x.2.2) from rfl)
      clear hx ht hb
      go_wp2_with fail
      clear z0 z1 z2 y0 y1 y2
      generalize wr.alloc (.cells #[.int .i64 x.1, .int .i64 x.2.1, .int .i64 x.2.2] 54) = w4 at *
      generalize wr.heap.size = p4 at *
      refine (clo_42 x w4).mono ?_
      rintro e w5 ⟨rfl, hb5⟩
      have r5 := hide (r4.out.below hb5 r4.out.lt)
      have hb5' := hide (below_both hb4.out hb5 hb4.out.size)
      clear hb5 r4 hb4
      have g0 := (r5.out.cell 0).trans (show _ = some (.int .i64 x.1) from rfl)
      have g1 := (r5.out.cell 1).trans (show _ = some (.int .i64 x.2.1) from rfl)
      have g2 := (r5.out.cell 2).trans (show _ = some (.int .i64 x.2.2) from rfl)
      by_cases h1 : x.1 ≤ last
      · have t1 : decide (x.1 ≤ last) = true := decide_eq_true h1
        have hf : Hid (riseL (l.map (·.1)) most (-1) = false) := by show _ = _; rw [← ht2.out, t1]; rfl
        clear h1 ht2
        go_wp2_with fail
        go_ret
        exact ⟨by rw [hf.out]; rfl, hb5'.out⟩
      · have t1 : decide (x.1 ≤ last) = false := decide_eq_false h1
        clear h1
        go_wp2_with fail
        refine (clo_42 x w5).mono ?_
        rintro e w6 ⟨rfl, hb6⟩
        have r6 := hide (r5.out.below hb6 r5.out.lt)
        have hb6' := hide (below_both hb5'.out hb6 hb5'.out.size)
        clear hb6 r5 hb5' g0 g1 g2
        have k0 := (r6.out.cell 0).trans (show _ = some (.int .i64 x.1) from rfl)
        have k1 := (r6.out.cell 1).trans (show _ = some (.int .i64 x.2.1) from rfl)
        have k2 := (r6.out.cell 2).trans (show _ = some (.int .i64 x.2.2) from rfl)
        by_cases h2 : most ≤ x.1
        · have t2 : decide (most ≤ x.1) = true := decide_eq_true h2
          have hf : Hid (riseL (l.map (·.1)) most (-1) = false) := by show _ = _; rw [← ht2.out, t1, t2]; rfl
          clear h2 ht2
          go_wp2_with fail
          go_ret
          exact ⟨by rw [hf.out]; rfl, hb6'.out⟩
        · have t2 : decide (most ≤ x.1) = false := decide_eq_false h2
          have ht3 : Hid (riseL ((l.map (·.1)).drop (j + 1)) most x.1 = riseL (l.map (·.1)) most (-1)) := by show _ = _; rw [← ht2.out, t1, t2]; rfl
          clear h2 ht2
          go_wp2_with fail
          refine (clo_42 x w6).mono ?_
          rintro e w7 ⟨rfl, hb7⟩
          have hb7' := hide (below_both hb6'.out hb7 hb6'.out.size)
          clear hb7 r6 hb6' k0 k1 k2
          go_wp2_with fail
          exact ⟨⟨j + 1, x.1, by omega, by go_num, rfl, ht3, hb7'⟩, by simp [intOf]; omega⟩
    · have hlt' : decide ((j : Int) < (n : Int)) = false := by simp; omega
      have hf : Hid (riseL (l.map (·.1)) most (-1) = true) := by
        show _ = _
        rw [← ht.out, List.drop_of_length_le (by rw [List.length_map, hlen.out]; omega)]
        rfl
      go_wp2_with fail
      go_ret
      exact ⟨by rw [hf.out]; rfl, hb.out⟩

set_option maxHeartbeats 1000000 in
set_option maxRecDepth 100000 in
theorem rise_45 (A : Option Addr) (n c : Nat) (l : List (Int × Int)) (most : Int) (w : World) (h : In w 2 f2 A n l) (hn : n ≤ 9223372036854775807) :
    Calls Try.prog 45 #[.slice A n c, .int .i64 most, .func (.func 46) #[] #[]] w (EqPost w (riseL (l.map (·.1)) most (-1))) := by
  have H := hide h
  have hlen := hide h.1
  clear h
  go_enter Try.func45, Try.ntmps45
  go_wp2_with fail
  go_loopw [7, 12] (fun la i wr => ∃ (j : Nat) (last : Int), j ≤ n ∧ i = .int .i64 j ∧ la = .int .i64 last ∧ Hid (riseL ((l.map (·.1)).drop j) most last = riseL (l.map (·.1)) most (-1)) ∧ Hid (Below w.heap.size w wr)) (fun _ i _ => n - (intOf i).toNat)
  case atStart => exact ⟨0, -1, by omega, rfl, rfl, rfl, Below.refl _ _⟩
  case round =>
    obtain ⟨j, last, hj, rfl, rfl, ht, hb⟩ := hrel
    by_cases hlt : j < n
    · have hlt' : decide ((j : Int) < (n : Int)) = true := by simp; omega
      have hltp : (j : Int) < (n : Int) := by omega
      obtain ⟨b, o, x, rfl, hx, z0, z1⟩ := (H.out.below hb.out).at2 hlt
      have ht2 : Hid ((!decide (x.1 ≤ last) && (!decide (most ≤ x.1) && riseL ((l.map (·.1)).drop (j + 1)) most x.1)) = riseL (l.map (·.1)) most (-1)) := by
        show _ = _
        have h1 := ht.out
        have hm : (l.map (·.1))[j]? = some x.1 := by simp [hx]
        have hjl := (List.getElem?_eq_some_iff.1 hm).1
        rw [List.drop_eq_getElem_cons hjl, show (l.map (·.1))[j] = x.1 by rw [List.getElem?_eq_getElem hjl] at hm; exact Option.some.inj hm, riseL] at h1
        exact h1
      have r4 : Hid (Row (wr.alloc (.cells #[.int .i64 x.1, .int .i64 x.2] 59)) wr.heap.size 59 #[.int .i64 x.1, .int .i64 x.2]) := Row.new _ _ _
      have hb4 : Hid (Below w.heap.size w (wr.alloc (.cells #[.int .i64 x.1, .int .i64 x.2] 59))) := hb.out.alloc hb.out.size _
      have y0 := (r4.out.cell 0).trans (show _ = some (.int .i64 x.1) from rfl)
      have y1 := (r4.out.cell 1).trans (show _ = some (.int .i64 x.2) from rfl)
      clear hx ht hb
      go_wp2_with fail
      clear z0 z1 y0 y1
      generalize wr.alloc (.cells #[.int .i64 x.1, .int .i64 x.2] 59) = w4 at *
      generalize wr.heap.size = p4 at *
      refine (clo_46 x w4).mono ?_
      rintro e w5 ⟨rfl, hb5⟩
      have r5 := hide (r4.out.below hb5 r4.out.lt)
      have hb5' := hide (below_both hb4.out hb5 hb4.out.size)
      clear hb5 r4 hb4
      have g0 := (r5.out.cell 0).trans (show _ = some (.int .i64 x.1) from rfl)
      have g1 := (r5.out.cell 1).trans (show _ = some (.int .i64 x.2) from rfl)
      by_cases h1 : x.1 ≤ last
      · have t1 : decide (x.1 ≤ last) = true := decide_eq_true h1
        have hf : Hid (riseL (l.map (·.1)) most (-1) = false) := by show _ = _; rw [← ht2.out, t1]; rfl
        clear h1 ht2
        go_wp2_with fail
        go_ret
        exact ⟨by rw [hf.out]; rfl, hb5'.out⟩
      · have t1 : decide (x.1 ≤ last) = false := decide_eq_false h1
        clear h1
        go_wp2_with fail
        refine (clo_46 x w5).mono ?_
        rintro e w6 ⟨rfl, hb6⟩
        have r6 := hide (r5.out.below hb6 r5.out.lt)
        have hb6' := hide (below_both hb5'.out hb6 hb5'.out.size)
        clear hb6 r5 hb5' g0 g1
        have k0 := (r6.out.cell 0).trans (show _ = some (.int .i64 x.1) from rfl)
        have k1 := (r6.out.cell 1).trans (show _ = some (.int .i64 x.2) from rfl)
        by_cases h2 : most ≤ x.1
        · have t2 : decide (most ≤ x.1) = true := decide_eq_true h2
          have hf : Hid (riseL (l.map (·.1)) most (-1) = false) := by show _ = _; rw [← ht2.out, t1, t2]; rfl
          clear h2 ht2
          go_wp2_with fail
          go_ret
          exact ⟨by rw [hf.out]; rfl, hb6'.out⟩
        · have t2 : decide (most ≤ x.1) = false := decide_eq_false h2
          have ht3 : Hid (riseL ((l.map (·.1)).drop (j + 1)) most x.1 = riseL (l.map (·.1)) most (-1)) := by show _ = _; rw [← ht2.out, t1, t2]; rfl
          clear h2 ht2
          go_wp2_with fail
          refine (clo_46 x w6).mono ?_
          rintro e w7 ⟨rfl, hb7⟩
          have hb7' := hide (below_both hb6'.out hb7 hb6'.out.size)
          clear hb7 r6 hb6' k0 k1
          go_wp2_with fail
          exact ⟨⟨j + 1, x.1, by omega, by go_num, rfl, ht3, hb7'⟩, by simp [intOf]; omega⟩
    · have hlt' : decide ((j : Int) < (n : Int)) = false := by simp; omega
      have hf : Hid (riseL (l.map (·.1)) most (-1) = true) := by
        show _ = _
        rw [← ht.out, List.drop_of_length_le (by rw [List.length_map, hlen.out]; omega)]
        rfl
      go_wp2_with fail
      go_ret
      exact ⟨by rw [hf.out]; rfl, hb.out⟩

/-- Are all numbers from 0 to below another one? -/
def numsL (l : List Int) (most : Int) : Bool := !l.any (pOut most)
set_option maxRecDepth 100000 in
theorem numbers_any (A : Option Addr) (n c : Nat) (l : List Int) (most : Int) (w : World) (h : In w 1 f1 A n l) (hn : n ≤ 9223372036854775807) :
    Calls Try.prog 40 #[.slice A n c, .int .i64 most] w (EqPost w (numsL l most)) := by
  have hmf : ∀ (fn : Fn) (first cap : Array Value) (w : World), (Instr.makeFunc fn first cap).run Try.prog w = .ok (.func fn first cap) w := fun _ _ _ _ => rfl
  have r1 : Row (w.alloc (.cells #[.int .i64 most] 3)) w.heap.size 3 #[.int .i64 most] := Row.new _ _ _
  have C := has_64 w.heap.size most A n c l (w.alloc (.cells #[.int .i64 most] 3)) (h.below (below_alloc _ _)) hn r1
  have hb := hide (below_alloc w (.cells #[.int .i64 most] 3))
  clear r1 h
  unfold numsL
  generalize l.any (pOut most) = r at *
  go_enter Try.func40, Try.ntmps40
  go_wp2_with fail
  refine C.mono ?_
  rintro e w1 ⟨rfl, hb1⟩
  have hb2 := hide (below_both hb.out hb1 hb.out.size)
  clear C hb1
  go_wp2_with fail
  go_ret
  exact ⟨rfl, hb2.out⟩
end Go.Proofs.Ytfldbkioepcghaa
