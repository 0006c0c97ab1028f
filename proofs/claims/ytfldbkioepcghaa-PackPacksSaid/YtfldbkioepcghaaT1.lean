/- Walks over pack: structs compared, even rows, rows packed. -/
import Derived.Test.YtfldbkioepcghaaSeq
import Derived.Test.YtfldbkioepcghaaBase
namespace Go.Proofs.Ytfldbkioepcghaa
open Go.RowKit
set_option linter.unusedVariables false

theorem neq43 (x y : Int × Int) (w : World) : (binOp .neq 43 (.agg #[.int .i64 x.1, .int .i64 x.2]) (.agg #[.int .i64 y.1, .int .i64 y.2])).run Try.prog w = .ok (.bool (!decide (x = y))) w := by
  obtain ⟨a, b⟩ := x
  obtain ⟨c, d⟩ := y
  go_simp
  by_cases h1 : a = c <;> by_cases h2 : b = d <;> simp [h1, h2]
theorem neq59 (x y : Int × Int) (w : World) : (binOp .neq 59 (.agg #[.int .i64 x.1, .int .i64 x.2]) (.agg #[.int .i64 y.1, .int .i64 y.2])).run Try.prog w = .ok (.bool (!decide (x = y))) w := by
  obtain ⟨a, b⟩ := x
  obtain ⟨c, d⟩ := y
  go_simp
  by_cases h1 : a = c <;> by_cases h2 : b = d <;> simp [h1, h2]
theorem neq54 (x y : Int × Int × Int) (w : World) : (binOp .neq 54 (.agg #[.int .i64 x.1, .int .i64 x.2.1, .int .i64 x.2.2]) (.agg #[.int .i64 y.1, .int .i64 y.2.1, .int .i64 y.2.2])).run Try.prog w = .ok (.bool (!decide (x = y))) w := by
  obtain ⟨a, b, p⟩ := x
  obtain ⟨c, d, q⟩ := y
  go_simp
  by_cases h1 : a = c <;> by_cases h2 : b = d <;> by_cases h3 : p = q <;> simp [h1, h2, h3]

theorem all_take {α : Type} {p : α → Bool} {l : List α} {j : Nat} {x : α} (hx : l[j]? = some x) (h : p x = true) (ht : (l.take j).all p = true) : (l.take (j + 1)).all p = true := by
  rw [List.take_add_one, hx, List.all_append, ht]
  simp [h]
theorem all_false {α : Type} {p : α → Bool} {l : List α} {j : Nat} {x : α} (hx : l[j]? = some x) (h : p x = false) : l.all p = false := by
  rw [List.all_eq_false]
  exact ⟨x, List.mem_of_getElem? hx, by simp [h]⟩
theorem all_end {α : Type} {p : α → Bool} {l : List α} {j : Nat} (hj : l.length ≤ j) (ht : (l.take j).all p = true) : l.all p = true := by
  rwa [List.take_of_length_le hj] at ht

/-- Have all rows one length, from one up to another one? -/
def evenR {α : Type} (ll : List (List α)) (least most : Nat) (row : List α) : Bool := decide (row.length = (ll.headD []).length) && (decide (least ≤ row.length) && decide (row.length ≤ most))
def evenL {α : Type} (ll : List (List α)) (least most : Nat) : Bool := ll.all (evenR ll least most)

set_option maxHeartbeats 1000000 in
set_option maxRecDepth 100000 in
theorem even_26 (A : Option Addr) (n c : Nat) (ll : List (List (Int × Int))) (least most : Nat) (w : World) (h : Nest w 2 f2 A n ll) (hn : n ≤ 1000000) :
    Calls Try.prog 26 #[.slice A n c, .int .i64 (least : Int), .int .i64 (most : Int)] w fun e w' => e = .returned (.bool (evenL ll least most)) ∧ w = w' := by
  have H := hide h
  have hlen := hide h.1
  clear h
  go_enter Try.func26, Try.ntmps26
  go_wp2_with fail
  go_loopw [8, 11] (fun _ i wr => ∃ j : Nat, j ≤ n ∧ i = .int .i64 j ∧ Hid ((ll.take j).all (evenR ll least most) = true) ∧ Hid (w = wr)) (fun _ i _ => n - (intOf i).toNat)
  case atStart => exact ⟨0, by omega, rfl, rfl, hide rfl⟩
  case round =>
    obtain ⟨j, hj, rfl, ht, hwr⟩ := hrel
    obtain rfl := hwr.out
    by_cases hlt : j < n
    · have hlt' : decide ((j : Int) < (n : Int)) = true := by simp; omega
      have hltp : (j : Int) < (n : Int) := by omega
      have hn0 : (0 : Int) < (n : Int) := by omega
      obtain ⟨b, o, row, A', c', rfl, hr, k1, k2, k3, k4⟩ := H.out.at_ hlt
      obtain ⟨b0, o0, row0, A0, c0, e0, hr0, z1, z2, z3, z4⟩ := H.out.at_ (show 0 < n by omega)
      injection e0 with e0
      injection e0 with p0 q0 _
      subst p0 q0
      rw [Nat.add_zero] at z1
      have hd : Hid (ll.headD [] = row0) := by
        show _ = _
        cases ll with
        | nil => simp at hr0
        | cons y l => simpa using hr0
      clear z2 k2
      by_cases h1 : row.length = row0.length
      · have t1 : ((row.length : Int) != (row0.length : Int)) = false := by simp [h1]
        by_cases h2 : least ≤ row.length
        · have t2 : decide (row.length < least) = false := by simp; omega
          by_cases h3 : row.length ≤ most
          · have t3 : decide (most < row.length) = false := by simp; omega
            have ht2 : Hid ((ll.take (j + 1)).all (evenR ll least most) = true) := all_take hr (by unfold evenR; rw [hd.out]; simp [h1]; omega) ht.out
            clear hr hr0 h1 h2 h3 hd
            go_wp2_with fail
            exact ⟨⟨j + 1, by omega, by go_num, ht2, hide trivial⟩, by simp [intOf]; omega⟩
          · have t3 : decide (most < row.length) = true := by simp; omega
            have hf : Hid (evenL ll least most = false) := all_false hr (by unfold evenR; simp [h3])
            clear hr hr0 h1 h2 h3 hd
            go_wp2_with fail
            go_ret
            exact ⟨by rw [hf.out]; rfl, rfl⟩
        · have t2 : decide (row.length < least) = true := by simp; omega
          have hf : Hid (evenL ll least most = false) := all_false hr (by unfold evenR; simp [h2])
          clear hr hr0 h1 h2 hd
          go_wp2_with fail
          go_ret
          exact ⟨by rw [hf.out]; rfl, rfl⟩
      · have t1 : ((row.length : Int) != (row0.length : Int)) = true := by simp; omega
        have hf : Hid (evenL ll least most = false) := all_false hr (by unfold evenR; rw [hd.out]; simp [h1])
        clear hr hr0 h1 hd
        go_wp2_with fail
        go_ret
        exact ⟨by rw [hf.out]; rfl, rfl⟩
    · have hlt' : decide ((j : Int) < (n : Int)) = false := by simp; omega
      have hf : Hid (evenL ll least most = true) := all_end (by rw [hlen.out]; omega) ht.out
      go_wp2_with fail
      go_ret
      exact ⟨by rw [hf.out]; rfl, rfl⟩

set_option maxHeartbeats 1000000 in
set_option maxRecDepth 100000 in
theorem even_27 (A : Option Addr) (n c : Nat) (ll : List (List Int)) (least most : Nat) (w : World) (h : Nest w 1 f1 A n ll) (hn : n ≤ 1000000) :
    Calls Try.prog 27 #[.slice A n c, .int .i64 (least : Int), .int .i64 (most : Int)] w fun e w' => e = .returned (.bool (evenL ll least most)) ∧ w = w' := by
  have H := hide h
  have hlen := hide h.1
  clear h
  go_enter Try.func27, Try.ntmps27
  go_wp2_with fail
  go_loopw [8, 11] (fun _ i wr => ∃ j : Nat, j ≤ n ∧ i = .int .i64 j ∧ Hid ((ll.take j).all (evenR ll least most) = true) ∧ Hid (w = wr)) (fun _ i _ => n - (intOf i).toNat)
  case atStart => exact ⟨0, by omega, rfl, rfl, hide rfl⟩
  case round =>
    obtain ⟨j, hj, rfl, ht, hwr⟩ := hrel
    obtain rfl := hwr.out
    by_cases hlt : j < n
    · have hlt' : decide ((j : Int) < (n : Int)) = true := by simp; omega
      have hltp : (j : Int) < (n : Int) := by omega
      have hn0 : (0 : Int) < (n : Int) := by omega
      obtain ⟨b, o, row, A', c', rfl, hr, k1, k2, k3, k4⟩ := H.out.at_ hlt
      obtain ⟨b0, o0, row0, A0, c0, e0, hr0, z1, z2, z3, z4⟩ := H.out.at_ (show 0 < n by omega)
      injection e0 with e0
      injection e0 with p0 q0 _
      subst p0 q0
      rw [Nat.add_zero] at z1
      have hd : Hid (ll.headD [] = row0) := by
        show _ = _
        cases ll with
        | nil => simp at hr0
        | cons y l => simpa using hr0
      clear z2 k2
      by_cases h1 : row.length = row0.length
      · have t1 : ((row.length : Int) != (row0.length : Int)) = false := by simp [h1]
        by_cases h2 : least ≤ row.length
        · have t2 : decide (row.length < least) = false := by simp; omega
          by_cases h3 : row.length ≤ most
          · have t3 : decide (most < row.length) = false := by simp; omega
            have ht2 : Hid ((ll.take (j + 1)).all (evenR ll least most) = true) := all_take hr (by unfold evenR; rw [hd.out]; simp [h1]; omega) ht.out
            clear hr hr0 h1 h2 h3 hd
            go_wp2_with fail
            exact ⟨⟨j + 1, by omega, by go_num, ht2, hide trivial⟩, by simp [intOf]; omega⟩
          · have t3 : decide (most < row.length) = true := by simp; omega
            have hf : Hid (evenL ll least most = false) := all_false hr (by unfold evenR; simp [h3])
            clear hr hr0 h1 h2 h3 hd
            go_wp2_with fail
            go_ret
            exact ⟨by rw [hf.out]; rfl, rfl⟩
        · have t2 : decide (row.length < least) = true := by simp; omega
          have hf : Hid (evenL ll least most = false) := all_false hr (by unfold evenR; simp [h2])
          clear hr hr0 h1 h2 hd
          go_wp2_with fail
          go_ret
          exact ⟨by rw [hf.out]; rfl, rfl⟩
      · have t1 : ((row.length : Int) != (row0.length : Int)) = true := by simp; omega
        have hf : Hid (evenL ll least most = false) := all_false hr (by unfold evenR; rw [hd.out]; simp [h1])
        clear hr hr0 h1 hd
        go_wp2_with fail
        go_ret
        exact ⟨by rw [hf.out]; rfl, rfl⟩
    · have hlt' : decide ((j : Int) < (n : Int)) = false := by simp; omega
      have hf : Hid (evenL ll least most = true) := all_end (by rw [hlen.out]; omega) ht.out
      go_wp2_with fail
      go_ret
      exact ⟨by rw [hf.out]; rfl, rfl⟩
end Go.Proofs.Ytfldbkioepcghaa
