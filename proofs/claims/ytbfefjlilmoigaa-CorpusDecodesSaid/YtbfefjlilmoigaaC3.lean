/- Walks over corpus: what is small, a kind, right; and over slices: which is the first. -/
import Derived.Test.YtbfefjlilmoigaaC2
import Derived.Test.YtbfefjlilmoigaaT14
namespace Go.Proofs.Ytbfefjlilmoigaa
open Go.RowKit
set_option linter.unusedVariables false

def okK (x : Int) : Bool := decide (1 ≤ x) && decide (x ≤ 4)

set_option maxRecDepth 100000 in
theorem small_any (x : Int) (w : World) : Calls Try.prog 54 #[.int .i64 x] w fun e w' => e = .returned (.bool (okI x)) ∧ w = w' := by
  unfold okI
  by_cases h : 0 ≤ x
  · have hd : decide (0 ≤ x) = true := decide_eq_true h
    clear h
    rw [hd]
    go_enter Try.func54, Try.ntmps54
    go_wp2_with fail
    go_ret
    exact ⟨by simp, rfl⟩
  · have hd : decide (0 ≤ x) = false := decide_eq_false h
    clear h
    rw [hd]
    go_enter Try.func54, Try.ntmps54
    go_wp2_with fail
    go_ret
    exact ⟨by simp, rfl⟩

theorem kind_any (x : Int) (w : World) : Calls Try.prog 53 #[.int .i64 x] w fun e w' => e = .returned (.bool (okK x)) ∧ w = w' := by
  unfold okK
  by_cases h : 1 ≤ x
  · have hd : decide (1 ≤ x) = true := decide_eq_true h
    clear h
    rw [hd]
    go_enter Try.func53, Try.ntmps53
    go_wp2_with fail
    go_ret
    exact ⟨by simp, rfl⟩
  · have hd : decide (1 ≤ x) = false := decide_eq_false h
    clear h
    rw [hd]
    go_enter Try.func53, Try.ntmps53
    go_wp2_with fail
    go_ret
    exact ⟨by simp, rfl⟩

theorem not_small_any (x : Int) (w : World) : Calls Try.prog 56 #[.int .i64 x] w fun e w' => e = .returned (.bool (!okI x)) ∧ w = w' := by
  go_enter Try.func56, Try.ntmps56
  go_wp2_with fail
  refine (small_any x _).mono ?_
  rintro e w1 ⟨rfl, rfl⟩
  go_wp2_with fail
  go_ret
  exact ⟨by simp, rfl⟩

set_option maxRecDepth 100000 in
theorem index_any (A : Option Addr) (n c : Nat) (l : List Int) (w : World) (h : Ints w A n l) (hn : n ≤ 9223372036854775806) :
    Calls Try.prog 65 #[.slice A n c, .func (.func 56) #[] #[]] w fun e w' => ∃ z, e = .returned (.int .i64 z) ∧ decide (0 ≤ z) = (!okL l) ∧ w' = w := by
  have H := hide h
  have hl := hide h.len
  clear h
  go_enter Try.func65, Try.ntmps65
  go_wp2_with fail
  go_loop [4, 5, 8] (fun _ _ i => ∃ j : Nat, j ≤ n ∧ i = .int .i64 j ∧ Hid (okL (l.take j) = true)) (fun _ _ i => n - (intOf i).toNat)
  case atStart => exact ⟨0, by omega, rfl, rfl⟩
  case round =>
    obtain ⟨j, hj, rfl, ht⟩ := hrel
    by_cases hlt : j < n
    · obtain ⟨b, o, x, hA, hx, hc⟩ := H.out.at_ hlt
      subst hA
      have hlt' : decide ((j : Int) < (n : Int)) = true := by simp; omega
      have C := not_small_any x w
      cases hok : okI x with
      | true =>
        have ht2 : Hid (okL (l.take (j + 1)) = true) := okL_take hx hok ht.out
        rw [hok, Bool.not_true] at C
        clear hx hok
        go_wp2_with fail
        refine C.mono ?_
        rintro e w1 ⟨rfl, rfl⟩
        clear C
        go_wp2_with fail
        exact ⟨⟨j + 1, by omega, by go_num, ht2⟩, by simp [intOf]; omega⟩
      | false =>
        have hf : Hid (okL l = false) := okL_false hx hok
        rw [hok, Bool.not_false] at C
        clear hx hok
        go_wp2_with fail
        refine C.mono ?_
        rintro e w1 ⟨rfl, rfl⟩
        clear C
        go_wp2_with fail
        go_ret
        exact ⟨j, rfl, by rw [hf.out]; simp, rfl⟩
    · have hlt' : decide ((j : Int) < (n : Int)) = false := by simp; omega
      have hf : Hid (okL l = true) := by
        show _ = _
        have := ht.out
        rwa [List.take_of_length_le (by rw [hl.out]; omega)] at this
      go_wp2_with fail
      go_ret
      exact ⟨-1, rfl, by rw [hf.out]; rfl, rfl⟩

theorem contains_any (A : Option Addr) (n c : Nat) (l : List Int) (w : World) (h : Ints w A n l) (hn : n ≤ 9223372036854775806) :
    Calls Try.prog 55 #[.slice A n c, .func (.func 56) #[] #[]] w fun e w' => e = .returned (.bool (!okL l)) ∧ w' = w := by
  go_enter Try.func55, Try.ntmps55
  go_wp2_with fail
  refine (index_any A n c l _ h hn).mono ?_
  rintro e w1 ⟨z, rfl, hz, rfl⟩
  cases hok : okL l with
  | true =>
    rw [hok, Bool.not_true] at hz
    go_wp2_with fail
    go_ret
    exact ⟨by rw [hok]; rfl, rfl⟩
  | false =>
    rw [hok, Bool.not_false] at hz
    go_wp2_with fail
    go_ret
    exact ⟨by rw [hok]; rfl, rfl⟩

def okC (x : Cas) : Bool := okK x.kind && (okI x.note && (decide (x.word.length ≤ 300) && okL x.word))
def rightC (l : List Cas) : Bool := decide (l.length ≤ 2000) && l.all okC

theorem all_take {α : Type} {p : α → Bool} {l : List α} {j : Nat} {x : α} (hx : l[j]? = some x) (h : p x = true) (ht : (l.take j).all p = true) : (l.take (j + 1)).all p = true := by
  rw [List.take_add_one, hx, List.all_append, ht]
  simp [h]
theorem all_false {α : Type} {p : α → Bool} {l : List α} {j : Nat} {x : α} (hx : l[j]? = some x) (h : p x = false) : l.all p = false := by
  rw [List.all_eq_false]
  exact ⟨x, List.mem_of_getElem? hx, by simp [h]⟩

set_option maxRecDepth 100000 in
theorem right_any (g : Nat) (A : Option Addr) (n c : Nat) (l : List Cas) (w : World) (hl : Cases w A n l) :
    Calls Try.prog 42 #[.agg #[.int .u32 (g : Int), .slice A n c]] w fun e w' => e = .returned (.bool (rightC l)) ∧ Below w.heap.size w w' := by
  have HL := hide (hl.below (below_alloc w (.cells #[.int .u32 (g : Int), .slice A n c] 37)))
  have hlen := hide hl.1
  clear hl
  by_cases h21 : 2000 < n
  · have hgt : decide (2000 < (n : Int)) = true := by simp; omega
    have hres : Hid (rightC l = false) := by show _ = _; unfold rightC; rw [hlen.out]; simp; omega
    go_enter Try.func42, Try.ntmps42
    go_wp2_with fail
    go_ret
    exact ⟨by rw [hres.out]; rfl, below_alloc _ _⟩
  · have hgt : decide (2000 < (n : Int)) = false := by simp; omega
    have hres : Hid (rightC l = l.all okC) := by show _ = _; unfold rightC; rw [hlen.out]; simp; omega
    have hrow : Row (w.alloc (.cells #[.int .u32 (g : Int), .slice A n c] 37)) w.heap.size 37 #[.int .u32 (g : Int), .slice A n c] := Row.new _ _ _
    have c1 : (w.alloc (.cells #[.int .u32 (g : Int), .slice A n c] 37)).cell? ⟨w.heap.size, 1, none⟩ = some (.slice A n c) := (hrow.cell 1).trans rfl
    clear hrow
    generalize hw1 : w.alloc (.cells #[.int .u32 (g : Int), .slice A n c] 37) = w1 at HL c1
    have hb1 : Hid (Below w.heap.size w w1) := by rw [← hw1]; exact below_alloc _ _
    go_enter Try.func42, Try.ntmps42
    go_wp2_with fail
    go_loopw [4, 12] (fun _ i wr => ∃ j : Nat, j ≤ n ∧ i = .int .i64 j ∧ Hid ((l.take j).all okC = true) ∧ Hid (Below w1.heap.size w1 wr)) (fun _ i _ => n - (intOf i).toNat)
    case atStart => exact ⟨0, by omega, rfl, rfl, Below.refl _ _⟩
    case round =>
      obtain ⟨j, hj, rfl, ht, hbr⟩ := hrel
      by_cases hlt : j < n
      · have hlt' : decide ((j : Int) < (n : Int)) = true := by simp; omega
        obtain ⟨b, o, x, hA, hx, hc⟩ := (HL.out.below hbr.out).at_ hlt
        subst hA
        obtain ⟨A', c', k1, k2, k3, k4⟩ := hc
        have Ck := kind_any x.kind (wr.alloc (.cells #[.int .i64 x.kind, .int .i64 x.note, .slice A' x.word.length c'] 66))
        have Cn := small_any x.note (wr.alloc (.cells #[.int .i64 x.kind, .int .i64 x.note, .slice A' x.word.length c'] 66))
        have hb2 : Hid (Below w.heap.size w (wr.alloc (.cells #[.int .i64 x.kind, .int .i64 x.note, .slice A' x.word.length c'] 66))) := below_both (below_both hb1.out hbr.out hb1.out.size) (below_alloc _ _) (below_both hb1.out hbr.out hb1.out.size).size
        cases hk : okK x.kind with
        | false =>
          have hf : Hid (rightC l = false) := by show _ = _; rw [hres.out]; exact all_false hx (by simp [okC, hk])
          rw [hk] at Ck
          clear hx
          go_wp2_with fail
          refine Ck.mono ?_
          rintro e w3 ⟨rfl, rfl⟩
          clear Ck Cn
          go_wp2_with fail
          go_ret
          exact ⟨by rw [hf.out]; rfl, hb2.out⟩
        | true =>
          rw [hk] at Ck
          cases hn : okI x.note with
          | false =>
            have hf : Hid (rightC l = false) := by show _ = _; rw [hres.out]; exact all_false hx (by simp [okC, hn])
            rw [hn] at Cn
            clear hx
            go_wp2_with fail
            refine Ck.mono ?_
            rintro e w3 ⟨rfl, rfl⟩
            go_wp2_with fail
            refine Cn.mono ?_
            rintro e w3 ⟨rfl, rfl⟩
            clear Ck Cn
            go_wp2_with fail
            go_ret
            exact ⟨by rw [hf.out]; rfl, hb2.out⟩
          | true =>
            rw [hn] at Cn
            by_cases h3 : 300 < x.word.length
            · have hf : Hid (rightC l = false) := by show _ = _; rw [hres.out]; exact all_false hx (by simp [okC]; omega)
              have h3' : decide (300 < (x.word.length : Int)) = true := by simp; omega
              clear hx
              go_wp2_with fail
              refine Ck.mono ?_
              rintro e w3 ⟨rfl, rfl⟩
              go_wp2_with fail
              refine Cn.mono ?_
              rintro e w3 ⟨rfl, rfl⟩
              clear Ck Cn
              go_wp2_with fail
              go_ret
              exact ⟨by rw [hf.out]; rfl, hb2.out⟩
            · have h3' : decide (300 < (x.word.length : Int)) = false := by simp; omega
              have Cc := contains_any A' x.word.length c' x.word (wr.alloc (.cells #[.int .i64 x.kind, .int .i64 x.note, .slice A' x.word.length c'] 66)) (k4.1.below (below_alloc _ _)) (by omega)
              cases hw : okL x.word with
              | false =>
                have hf : Hid (rightC l = false) := by show _ = _; rw [hres.out]; exact all_false hx (by simp [okC, hw])
                rw [hw] at Cc
                clear hx
                go_wp2_with fail
                refine Ck.mono ?_
                rintro e w3 ⟨rfl, rfl⟩
                go_wp2_with fail
                refine Cn.mono ?_
                rintro e w3 ⟨rfl, rfl⟩
                go_wp2_with fail
                refine Cc.mono ?_
                rintro e w3 ⟨rfl, rfl⟩
                clear Ck Cn Cc
                go_wp2_with fail
                go_ret
                exact ⟨by rw [hf.out]; rfl, hb2.out⟩
              | true =>
                have ht2 : Hid ((l.take (j + 1)).all okC = true) := all_take hx (by simp [okC, hk, hn, hw]; omega) ht.out
                have hbr2 : Hid (Below w1.heap.size w1 (wr.alloc (.cells #[.int .i64 x.kind, .int .i64 x.note, .slice A' x.word.length c'] 66))) := below_both hbr.out (below_alloc _ _) hbr.out.size
                rw [hw] at Cc
                clear hx
                go_wp2_with fail
                refine Ck.mono ?_
                rintro e w3 ⟨rfl, rfl⟩
                go_wp2_with fail
                refine Cn.mono ?_
                rintro e w3 ⟨rfl, rfl⟩
                go_wp2_with fail
                refine Cc.mono ?_
                rintro e w3 ⟨rfl, rfl⟩
                clear Ck Cn Cc
                go_wp2_with fail
                exact ⟨⟨j + 1, by omega, by go_num, ht2, hbr2⟩, by simp [intOf]; omega⟩
      · have hlt' : decide ((j : Int) < (n : Int)) = false := by simp; omega
        have hf : Hid (rightC l = true) := by
          show _ = _
          rw [hres.out]
          have := ht.out
          rwa [List.take_of_length_le (by rw [hlen.out]; omega)] at this
        go_wp2_with fail
        go_ret
        exact ⟨by rw [hf.out]; rfl, below_both hb1.out hbr.out hb1.out.size⟩
end Go.Proofs.Ytbfefjlilmoigaa
