/- Walks over pack and the reference: a row packed. -/
import Derived.Test.YtfldbkioepcghaaT1
namespace Go.Proofs.Ytfldbkioepcghaa
open Go.RowKit
set_option linter.unusedVariables false

/-- A row's entries, from a column on. -/
def entF : List (Int × Int) → Nat → List (Int × Int × Int)
  | [], _ => []
  | x :: l, i => if x = (0, 0) then entF l (i + 1) else ((i : Int), x.1, x.2) :: entF l (i + 1)
def edgF : List Int → Nat → List (Int × Int)
  | [], _ => []
  | x :: l, i => if x = -1 then edgF l (i + 1) else ((i : Int), x) :: edgF l (i + 1)
theorem entF_append : ∀ (a b : List (Int × Int)) (i : Nat), entF (a ++ b) i = entF a i ++ entF b (i + a.length)
  | [], b, i => by simp [entF]
  | x :: a, b, i => by
    have ih := entF_append a b (i + 1)
    simp only [List.cons_append, entF, ih, List.length_cons]
    rw [show i + 1 + a.length = i + (a.length + 1) by omega]
    split <;> simp
theorem edgF_append : ∀ (a b : List Int) (i : Nat), edgF (a ++ b) i = edgF a i ++ edgF b (i + a.length)
  | [], b, i => by simp [edgF]
  | x :: a, b, i => by
    have ih := edgF_append a b (i + 1)
    simp only [List.cons_append, edgF, ih, List.length_cons]
    rw [show i + 1 + a.length = i + (a.length + 1) by omega]
    split <;> simp
theorem entF_take {l : List (Int × Int)} {j : Nat} {x : Int × Int} (hx : l[j]? = some x) : entF (l.take (j + 1)) 0 = entF (l.take j) 0 ++ (if x = (0, 0) then [] else [((j : Int), x.1, x.2)]) := by
  have hj := (List.getElem?_eq_some_iff.1 hx).1
  rw [List.take_add_one, hx, entF_append, List.length_take, Nat.zero_add, Nat.min_eq_left (by omega)]
  simp [entF]
theorem edgF_take {l : List Int} {j : Nat} {x : Int} (hx : l[j]? = some x) : edgF (l.take (j + 1)) 0 = edgF (l.take j) 0 ++ (if x = -1 then [] else [((j : Int), x)]) := by
  have hj := (List.getElem?_eq_some_iff.1 hx).1
  rw [List.take_add_one, hx, edgF_append, List.length_take, Nat.zero_add, Nat.min_eq_left (by omega)]
  simp [edgF]
theorem entF_len : ∀ (l : List (Int × Int)) (i : Nat), (entF l i).length ≤ l.length
  | [], i => by simp [entF]
  | x :: l, i => by
    have ih := entF_len l (i + 1)
    unfold entF
    split <;> simp <;> omega
theorem edgF_len : ∀ (l : List Int) (i : Nat), (edgF l i).length ≤ l.length
  | [], i => by simp [edgF]
  | x :: l, i => by
    have ih := edgF_len l (i + 1)
    unfold edgF
    split <;> simp <;> omega

theorem In.row {α : Type} {f : α → List Value} {k : Nat} {w : World} {g e : Nat} {x : α} (hk : (f x).length = k) (h : Row w g e (f x).toArray) : In w k f (some ⟨g, 0, none⟩) 1 [x] :=
  ⟨rfl, by rw [flat_one, hk, Nat.one_mul], fun _ => ⟨g, 0, rfl, fun j u hu => by rw [Nat.zero_add, h.cell j]; rw [flat_one] at hu; simpa using hu⟩⟩

def PackPost {α : Type} (w : World) (e k : Nat) (f : α → List Value) (l : List α) (r : Ending) (w' : World) : Prop :=
  ∃ v, r = .returned v ∧ OwnR w' w.heap.size e k f v l ∧ Below w.heap.size w w'

set_option maxHeartbeats 1000000 in
set_option maxRecDepth 100000 in
theorem entries_any (A : Option Addr) (n c : Nat) (l : List (Int × Int)) (w : World) (h : In w 2 f2 A n l) (hn : n ≤ 1000000) :
    Calls Try.prog 29 #[.slice A n c] w (PackPost w 54 3 f3 (entF l 0)) := by
  have H := hide h
  have hlen := hide h.1
  clear h
  go_enter Try.func29, Try.ntmps29
  go_wp2_with fail
  go_loopw [2, 7] (fun v i wr => ∃ (j L c' : Nat) (A' : Option Addr), j ≤ n ∧ i = .int .i64 j ∧ v = .slice A' L c' ∧ Hid (L = (entF (l.take j) 0).length) ∧ Hid (OwnR wr w.heap.size 54 3 f3 (.slice A' L c') (entF (l.take j) 0)) ∧ Hid (Below w.heap.size w wr)) (fun _ i _ => n - (intOf i).toNat)
  case atStart => exact ⟨0, 0, 0, none, by omega, rfl, rfl, rfl, OwnR.nil _ _ _ _ _, Below.refl _ _⟩
  case round =>
    obtain ⟨j, L, c', A', hj, rfl, rfl, hL, hO, hb⟩ := hrel
    by_cases hlt : j < n
    · have hlt' : decide ((j : Int) < (n : Int)) = true := by simp; omega
      have hltp : (j : Int) < (n : Int) := by omega
      obtain ⟨b, o, x, rfl, hx, k1', k2'⟩ := (H.out.below hb.out).at2 hlt
      have hb4 : Hid (Below w.heap.size w (wr.alloc (.cells #[.int .i64 x.1, .int .i64 x.2] 43))) := hb.out.alloc hb.out.size _
      have r4 : Row (wr.alloc (.cells #[.int .i64 x.1, .int .i64 x.2] 43)) wr.heap.size 43 #[.int .i64 x.1, .int .i64 x.2] := Row.new _ _ _
      have x0 := (r4.cell 0).trans (show _ = some (.int .i64 x.1) from rfl)
      have x1 := (r4.cell 1).trans (show _ = some (.int .i64 x.2) from rfl)
      have hO4 := hide (hO.out.below (below_alloc wr (.cells #[.int .i64 x.1, .int .i64 x.2] 43)))
      have hq := neq43 x (0, 0)
      have hle : L ≤ 1000000 := by have := hL.out; have h2 := entF_len (l.take j) 0; rw [List.length_take] at h2; omega
      by_cases hz : x = (0, 0)
      · have ht : Hid (entF (l.take (j + 1)) 0 = entF (l.take j) 0) := by show _ = _; rw [entF_take hx, if_pos hz, List.append_nil]
        have hL2 : Hid (L = (entF (l.take (j + 1)) 0).length) := by show _ = _; rw [ht.out]; exact hL.out
        rw [← ht.out] at hO4
        obtain ⟨xa, xb⟩ := x
        injection hz with za zb
        subst za zb
        clear hx hO r4 hq
        go_wp2_with fail
        exact ⟨⟨j + 1, L, c', A', by omega, by go_num, rfl, hL2, hO4, hb4⟩, by simp [intOf]; omega⟩
      · have ht : Hid (entF (l.take (j + 1)) 0 = entF (l.take j) 0 ++ [((j : Int), x.1, x.2)]) := by show _ = _; rw [entF_take hx, if_neg hz]
        have hL2 : Hid (L + 1 = (entF (l.take (j + 1)) 0).length) := by show _ = _; rw [ht.out, List.length_append, hL.out]; rfl
        rw [decide_eq_false hz] at hq
        simp only [Bool.not_false] at hq
        have b5 : Below wr.heap.size wr ((wr.alloc (.cells #[.int .i64 x.1, .int .i64 x.2] 43)).alloc (.cells #[.int .i64 (j : Int), .int .i64 x.1, .int .i64 x.2] 54)) := ((Below.refl _ _).alloc (Nat.le_refl _) _).alloc (by simp) _
        have r5 : Row ((wr.alloc (.cells #[.int .i64 x.1, .int .i64 x.2] 43)).alloc (.cells #[.int .i64 (j : Int), .int .i64 x.1, .int .i64 x.2] 54)) (wr.heap.size + 1) 54 (f3 ((j : Int), x.1, x.2)).toArray := by
          have := Row.new (wr.alloc (.cells #[.int .i64 x.1, .int .i64 x.2] 43)) 54 #[.int .i64 (j : Int), .int .i64 x.1, .int .i64 x.2]
          simpa [f3] using this
        have hO5 := hO.out.below b5
        have hbs := hb.out.size
        have hLo := hL.out
        clear hx hz r4 hO
        go_wp2_with (at_builtin; refine appR ti61 (by omega) one3 w.heap.size hO5 (In.row rfl r5) (by rw [← hLo]; omega) (by omega) (by simp; omega) rfl _ _ rfl rfl 1 rfl ?_)
        intro A6 c6 w6 hown6 hbel6 hgr6
        rw [← hLo] at hown6 ⊢
        have hO6 : Hid (OwnR w6 w.heap.size 54 3 f3 (.slice A6 (L + 1) c6) (entF (l.take (j + 1)) 0)) := by show OwnR _ _ _ _ _ _ _; rw [ht.out]; exact hown6
        have hb6 : Hid (Below w.heap.size w w6) := (below_both hb.out b5 hb.out.size).trans hbel6
        clear hown6 hbel6 hgr6 hO5 r5 b5 hLo x0 x1 hO4
        go_wp2_with fail
        exact ⟨⟨j + 1, L + 1, c6, A6, by omega, by go_num, rfl, hL2, hO6, hb6⟩, by simp [intOf]; omega⟩
    · have hlt' : decide ((j : Int) < (n : Int)) = false := by simp; omega
      have hO2 : Hid (OwnR wr w.heap.size 54 3 f3 (.slice A' L c') (entF l 0)) := by
        have := hO.out
        rwa [List.take_of_length_le (by rw [hlen.out]; omega)] at this
      go_wp2_with fail
      go_ret
      exact ⟨_, rfl, hO2.out, hb.out⟩

set_option maxHeartbeats 1000000 in
set_option maxRecDepth 100000 in
theorem edges_any (A : Option Addr) (n c : Nat) (l : List Int) (w : World) (h : In w 1 f1 A n l) (hn : n ≤ 1000000) :
    Calls Try.prog 31 #[.slice A n c] w (PackPost w 59 2 f2 (edgF l 0)) := by
  have H := hide h
  have hlen := hide h.1
  clear h
  go_enter Try.func31, Try.ntmps31
  go_wp2_with fail
  go_loopw [2, 7] (fun v i wr => ∃ (j L c' : Nat) (A' : Option Addr), j ≤ n ∧ i = .int .i64 j ∧ v = .slice A' L c' ∧ Hid (L = (edgF (l.take j) 0).length) ∧ Hid (OwnR wr w.heap.size 59 2 f2 (.slice A' L c') (edgF (l.take j) 0)) ∧ Hid (Below w.heap.size w wr)) (fun _ i _ => n - (intOf i).toNat)
  case atStart => exact ⟨0, 0, 0, none, by omega, rfl, rfl, rfl, OwnR.nil _ _ _ _ _, Below.refl _ _⟩
  case round =>
    obtain ⟨j, L, c', A', hj, rfl, rfl, hL, hO, hb⟩ := hrel
    by_cases hlt : j < n
    · have hlt' : decide ((j : Int) < (n : Int)) = true := by simp; omega
      have hltp : (j : Int) < (n : Int) := by omega
      obtain ⟨b, o, x, rfl, hx, k1'⟩ := (H.out.below hb.out).at1 hlt
      have hle : L ≤ 1000000 := by have := hL.out; have h2 := edgF_len (l.take j) 0; rw [List.length_take] at h2; omega
      by_cases hz : x = -1
      · have ht : Hid (edgF (l.take (j + 1)) 0 = edgF (l.take j) 0) := by show _ = _; rw [edgF_take hx, if_pos hz, List.append_nil]
        have hL2 : Hid (L = (edgF (l.take (j + 1)) 0).length) := by show _ = _; rw [ht.out]; exact hL.out
        have hO4 := hO
        rw [← ht.out] at hO4
        have tz : ((x : Int) != -1) = false := by simp [hz]
        clear hx hO
        go_wp2_with fail
        exact ⟨⟨j + 1, L, c', A', by omega, by go_num, rfl, hL2, hO4, hb⟩, by simp [intOf]; omega⟩
      · have ht : Hid (edgF (l.take (j + 1)) 0 = edgF (l.take j) 0 ++ [((j : Int), x)]) := by show _ = _; rw [edgF_take hx, if_neg hz]
        have hL2 : Hid (L + 1 = (edgF (l.take (j + 1)) 0).length) := by show _ = _; rw [ht.out, List.length_append, hL.out]; rfl
        have tz : ((x : Int) != -1) = true := by simpa using hz
        have b5 : Below wr.heap.size wr (wr.alloc (.cells #[.int .i64 (j : Int), .int .i64 x] 59)) := below_alloc _ _
        have r5 : Row (wr.alloc (.cells #[.int .i64 (j : Int), .int .i64 x] 59)) wr.heap.size 59 (f2 ((j : Int), x)).toArray := Row.new _ _ _
        have hO5 := hO.out.below b5
        have hbs := hb.out.size
        have hLo := hL.out
        clear hx hz hO
        go_wp2_with (at_builtin; refine appR ti62 (by omega) one2 w.heap.size hO5 (In.row rfl r5) (by rw [← hLo]; omega) (by omega) (by simp; omega) rfl _ _ rfl rfl 1 rfl ?_)
        intro A6 c6 w6 hown6 hbel6 hgr6
        rw [← hLo] at hown6 ⊢
        have hO6 : Hid (OwnR w6 w.heap.size 59 2 f2 (.slice A6 (L + 1) c6) (edgF (l.take (j + 1)) 0)) := by show OwnR _ _ _ _ _ _ _; rw [ht.out]; exact hown6
        have hb6 : Hid (Below w.heap.size w w6) := (below_both hb.out b5 hb.out.size).trans hbel6
        clear hown6 hbel6 hgr6 hO5 r5 b5 hLo
        go_wp2_with fail
        exact ⟨⟨j + 1, L + 1, c6, A6, by omega, by go_num, rfl, hL2, hO6, hb6⟩, by simp [intOf]; omega⟩
    · have hlt' : decide ((j : Int) < (n : Int)) = false := by simp; omega
      have hO2 : Hid (OwnR wr w.heap.size 59 2 f2 (.slice A' L c') (edgF l 0)) := by
        have := hO.out
        rwa [List.take_of_length_le (by rw [hlen.out]; omega)] at this
      go_wp2_with fail
      go_ret
      exact ⟨_, rfl, hO2.out, hb.out⟩

set_option maxHeartbeats 1000000 in
set_option maxRecDepth 100000 in
theorem rrow_any (A : Option Addr) (n c : Nat) (l : List (Int × Int)) (w : World) (h : In w 2 f2 A n l) (hn : n ≤ 1000000) :
    Calls Try.prog 33 #[.slice A n c] w (PackPost w 54 3 f3 (entF l 0)) := by
  have H := hide h
  have hlen := hide h.1
  clear h
  go_enter Try.func33, Try.ntmps33
  go_wp2_with fail
  go_loopw [3, 4] (fun v i wr => ∃ (j L c' : Nat) (A' : Option Addr), j ≤ n ∧ i = .int .i64 j ∧ v = .slice A' L c' ∧ Hid (L = (entF (l.take j) 0).length) ∧ Hid (OwnR wr w.heap.size 54 3 f3 (.slice A' L c') (entF (l.take j) 0)) ∧ Hid (Below w.heap.size w wr)) (fun _ i _ => n - (intOf i).toNat)
  case atStart => exact ⟨0, 0, 0, none, by omega, rfl, rfl, rfl, OwnR.nil _ _ _ _ _, Below.refl _ _⟩
  case round =>
    obtain ⟨j, L, c', A', hj, rfl, rfl, hL, hO, hb⟩ := hrel
    by_cases hlt : j < n
    · have hlt' : decide ((j : Int) < (n : Int)) = true := by simp; omega
      have hltp : (j : Int) < (n : Int) := by omega
      obtain ⟨b, o, x, rfl, hx, k1', k2'⟩ := (H.out.below hb.out).at2 hlt
      have hle : L ≤ 1000000 := by have := hL.out; have h2 := entF_len (l.take j) 0; rw [List.length_take] at h2; omega
      by_cases hz : x = (0, 0)
      · have ht : Hid (entF (l.take (j + 1)) 0 = entF (l.take j) 0) := by show _ = _; rw [entF_take hx, if_pos hz, List.append_nil]
        have hL2 : Hid (L = (entF (l.take (j + 1)) 0).length) := by show _ = _; rw [ht.out]; exact hL.out
        have hO4 := hO
        rw [← ht.out] at hO4
        obtain ⟨xa, xb⟩ := x
        injection hz with za zb
        subst za zb
        clear hx hO
        go_wp2_with fail
        exact ⟨⟨j + 1, L, c', A', by omega, by go_num, rfl, hL2, hO4, hb⟩, by simp [intOf]; omega⟩
      · have ht : Hid (entF (l.take (j + 1)) 0 = entF (l.take j) 0 ++ [((j : Int), x.1, x.2)]) := by show _ = _; rw [entF_take hx, if_neg hz]
        have hL2 : Hid (L + 1 = (entF (l.take (j + 1)) 0).length) := by show _ = _; rw [ht.out, List.length_append, hL.out]; rfl
        have hq := neq43 x (0, 0)
        rw [decide_eq_false hz] at hq
        simp only [Bool.not_false] at hq
        have b5 : Below wr.heap.size wr (wr.alloc (.cells #[.int .i64 (j : Int), .int .i64 x.1, .int .i64 x.2] 54)) := below_alloc _ _
        have r5 : Row (wr.alloc (.cells #[.int .i64 (j : Int), .int .i64 x.1, .int .i64 x.2] 54)) wr.heap.size 54 (f3 ((j : Int), x.1, x.2)).toArray := Row.new _ _ _
        have hO5 := hO.out.below b5
        have hbs := hb.out.size
        have hLo := hL.out
        clear hx hz hO
        go_wp2_with (at_builtin; refine appR ti61 (by omega) one3 w.heap.size hO5 (In.row rfl r5) (by rw [← hLo]; omega) (by omega) (by simp; omega) rfl _ _ rfl rfl 1 rfl ?_)
        intro A6 c6 w6 hown6 hbel6 hgr6
        rw [← hLo] at hown6 ⊢
        have hO6 : Hid (OwnR w6 w.heap.size 54 3 f3 (.slice A6 (L + 1) c6) (entF (l.take (j + 1)) 0)) := by show OwnR _ _ _ _ _ _ _; rw [ht.out]; exact hown6
        have hb6 : Hid (Below w.heap.size w w6) := (below_both hb.out b5 hb.out.size).trans hbel6
        clear hown6 hbel6 hgr6 hO5 r5 b5 hLo
        go_wp2_with fail
        exact ⟨⟨j + 1, L + 1, c6, A6, by omega, by go_num, rfl, hL2, hO6, hb6⟩, by simp [intOf]; omega⟩
    · have hlt' : decide ((j : Int) < (n : Int)) = false := by simp; omega
      have hO2 : Hid (OwnR wr w.heap.size 54 3 f3 (.slice A' L c') (entF l 0)) := by
        have := hO.out
        rwa [List.take_of_length_le (by rw [hlen.out]; omega)] at this
      go_wp2_with fail
      go_ret
      exact ⟨_, rfl, hO2.out, hb.out⟩

set_option maxHeartbeats 1000000 in
set_option maxRecDepth 100000 in
theorem rgotos_any (A : Option Addr) (n c : Nat) (l : List Int) (w : World) (h : In w 1 f1 A n l) (hn : n ≤ 1000000) :
    Calls Try.prog 34 #[.slice A n c] w (PackPost w 59 2 f2 (edgF l 0)) := by
  have H := hide h
  have hlen := hide h.1
  clear h
  go_enter Try.func34, Try.ntmps34
  go_wp2_with fail
  go_loopw [3, 4] (fun v i wr => ∃ (j L c' : Nat) (A' : Option Addr), j ≤ n ∧ i = .int .i64 j ∧ v = .slice A' L c' ∧ Hid (L = (edgF (l.take j) 0).length) ∧ Hid (OwnR wr w.heap.size 59 2 f2 (.slice A' L c') (edgF (l.take j) 0)) ∧ Hid (Below w.heap.size w wr)) (fun _ i _ => n - (intOf i).toNat)
  case atStart => exact ⟨0, 0, 0, none, by omega, rfl, rfl, rfl, OwnR.nil _ _ _ _ _, Below.refl _ _⟩
  case round =>
    obtain ⟨j, L, c', A', hj, rfl, rfl, hL, hO, hb⟩ := hrel
    by_cases hlt : j < n
    · have hlt' : decide ((j : Int) < (n : Int)) = true := by simp; omega
      have hltp : (j : Int) < (n : Int) := by omega
      obtain ⟨b, o, x, rfl, hx, k1'⟩ := (H.out.below hb.out).at1 hlt
      have hle : L ≤ 1000000 := by have := hL.out; have h2 := edgF_len (l.take j) 0; rw [List.length_take] at h2; omega
      by_cases hz : x = -1
      · have ht : Hid (edgF (l.take (j + 1)) 0 = edgF (l.take j) 0) := by show _ = _; rw [edgF_take hx, if_pos hz, List.append_nil]
        have hL2 : Hid (L = (edgF (l.take (j + 1)) 0).length) := by show _ = _; rw [ht.out]; exact hL.out
        have hO4 := hO
        rw [← ht.out] at hO4
        have tz : ((x : Int) != -1) = false := by simp [hz]
        clear hx hO
        go_wp2_with fail
        exact ⟨⟨j + 1, L, c', A', by omega, by go_num, rfl, hL2, hO4, hb⟩, by simp [intOf]; omega⟩
      · have ht : Hid (edgF (l.take (j + 1)) 0 = edgF (l.take j) 0 ++ [((j : Int), x)]) := by show _ = _; rw [edgF_take hx, if_neg hz]
        have hL2 : Hid (L + 1 = (edgF (l.take (j + 1)) 0).length) := by show _ = _; rw [ht.out, List.length_append, hL.out]; rfl
        have tz : ((x : Int) != -1) = true := by simpa using hz
        have b5 : Below wr.heap.size wr (wr.alloc (.cells #[.int .i64 (j : Int), .int .i64 x] 59)) := below_alloc _ _
        have r5 : Row (wr.alloc (.cells #[.int .i64 (j : Int), .int .i64 x] 59)) wr.heap.size 59 (f2 ((j : Int), x)).toArray := Row.new _ _ _
        have hO5 := hO.out.below b5
        have hbs := hb.out.size
        have hLo := hL.out
        clear hx hz hO
        go_wp2_with (at_builtin; refine appR ti62 (by omega) one2 w.heap.size hO5 (In.row rfl r5) (by rw [← hLo]; omega) (by omega) (by simp; omega) rfl _ _ rfl rfl 1 rfl ?_)
        intro A6 c6 w6 hown6 hbel6 hgr6
        rw [← hLo] at hown6 ⊢
        have hO6 : Hid (OwnR w6 w.heap.size 59 2 f2 (.slice A6 (L + 1) c6) (edgF (l.take (j + 1)) 0)) := by show OwnR _ _ _ _ _ _ _; rw [ht.out]; exact hown6
        have hb6 : Hid (Below w.heap.size w w6) := (below_both hb.out b5 hb.out.size).trans hbel6
        clear hown6 hbel6 hgr6 hO5 r5 b5 hLo
        go_wp2_with fail
        exact ⟨⟨j + 1, L + 1, c6, A6, by omega, by go_num, rfl, hL2, hO6, hb6⟩, by simp [intOf]; omega⟩
    · have hlt' : decide ((j : Int) < (n : Int)) = false := by simp; omega
      have hO2 : Hid (OwnR wr w.heap.size 59 2 f2 (.slice A' L c') (edgF l 0)) := by
        have := hO.out
        rwa [List.take_of_length_le (by rw [hlen.out]; omega)] at this
      go_wp2_with fail
      go_ret
      exact ⟨_, rfl, hO2.out, hb.out⟩
end Go.Proofs.Ytfldbkioepcghaa
