/- A slice of ints and a pair of ints, that came in, read as lists. -/
import Derived.Test.YtbfefjlilmoigaaOpen
import Derived.Test.YtbfefjlilmoigaaT12
namespace Go.Proofs.Ytbfefjlilmoigaa
open Go.ChangeShapes Go.WideShapes Go.ChangeAt Go.RowKit
set_option linter.unusedVariables false
section
variable {H : Type} {enc : TypeId × Value → H} {W : World}

theorem open_nums {a : Option Addr} {len cap : Nat} {d : DataW H} {p : List MemPlace} (h : DataW.Trod enc Try.prog W 0 (fun _ => true) true 50 (.slice a len cap) d p) :
    ∃ l : List Int, (Ints W a len l ∧ ∀ z ∈ l, -9223372036854775808 ≤ z ∧ z ≤ 9223372036854775807) ∧ len ≤ cap ∧ cap ≤ maxLen ∧ (len = 0 ∨ ∃ es sp, d = .slice es sp ∧ es.length = len) := by
  obtain ⟨fuel, hf⟩ := h
  rcases Go.ChangeShapes.open_ints Try.underlying50 Try.underlying3 (by kernel_rfl) hf with ⟨hcs, _⟩ | ⟨x, l, c, zs, hcs, _, hl, hm, hz, hx, hcell, hwz⟩
  · simp [Value.cells] at hcs
    obtain ⟨rfl, rfl, rfl⟩ := hcs
    exact ⟨[], ⟨Elems.nil _ _, by simp⟩, by omega, by unfold maxLen; omega, .inl rfl⟩
  · simp [Value.cells] at hcs
    obtain ⟨rfl, rfl, rfl⟩ := hcs
    simp only [if_true] at hz
    refine ⟨zs.take len, ⟨elems_of_cells (by rw [ints_length, List.length_take]; omega) ?_, fun z hz => bounds_i64 (hwz z (List.mem_of_mem_take hz))⟩, hl, hm, .inr ⟨_, _, (Prod.mk.inj hx).1, by simp [lits]; omega⟩⟩
    intro i u hu
    simp only [ints, List.getElem?_map, Option.map_eq_some_iff] at hu
    obtain ⟨z, hz1, rfl⟩ := hu
    rw [List.getElem?_take] at hz1
    split at hz1
    · rename_i hil
      have hiz : i < zs.length := by omega
      rw [hcell i hiz]
      rw [List.getElem?_eq_getElem hiz] at hz1
      injection hz1 with hz1
      simp [List.getD, List.getElem?_eq_getElem hiz, hz1]
    · cases hz1

theorem open_two {base : Nat} {v : Value} {d : DataW H} {p : List MemPlace} (hv : Value.okWide Try.prog W .any base 51 v) (h : DataW.Trod enc Try.prog W 0 (fun _ => true) true 51 v d p) :
    ∃ x y : Int, v = .agg #[.int .i64 x, .int .i64 y] ∧ (-9223372036854775808 ≤ x ∧ x ≤ 9223372036854775807) ∧ (-9223372036854775808 ≤ y ∧ y ≤ 9223372036854775807) := by
  have hsh : ∃ cs, v = .agg cs ∧ cs.size = 2 := by
    simp only [Value.okWide, Try.underlying51] at hv
    obtain ⟨cs, h1, h2, _⟩ := hv
    exact ⟨cs, h1, h2.trans (by kernel_rfl)⟩
  obtain ⟨cs, rfl, hcs⟩ := hsh
  obtain ⟨fuel, hf⟩ := h
  obtain ⟨xs, m, rfl, _, _, hx, hall⟩ := DataW.trod_array Try.underlying51 hf
  have hc3 : Try.prog.cellsOf 3 = 1 := by kernel_rfl
  rw [hc3] at hall
  obtain ⟨l⟩ := cs
  match l, hcs with
  | [u, v], _ =>
    have h0 := hall 0 (by omega)
    have h1 := hall 1 (by omega)
    simp only [Value.cells, Nat.mul_one, List.drop_zero, List.drop_succ_cons, List.take_succ_cons, List.take_zero] at h0 h1
    rw [List.getElem?_eq_getElem (by omega)] at h0 h1
    obtain ⟨x, hx1, _, hw1⟩ := DataW.trod_int Try.underlying3 h0
    obtain ⟨y, hy1, _, hw2⟩ := DataW.trod_int Try.underlying3 h1
    obtain rfl : u = .int .i64 x := by simpa using hx1
    obtain rfl : v = .int .i64 y := by simpa using hy1
    exact ⟨x, y, rfl, bounds_i64 hw1, bounds_i64 hw2⟩
end
end Go.Proofs.Ytbfefjlilmoigaa
