/- Walks over Go's library: a product of two small numbers; a number repeated. -/
import Derived.Test.YtfldbkioepcghaaT9
import Derived.Laws.IdiomCopy
import Derived.Laws.OwnMore
namespace Go.Proofs.Ytfldbkioepcghaa
open Go.RowKit
set_option linter.unusedVariables false

theorem and_small (m : Nat) (h : m ≤ 16) : bits .and .u64 (m : Int) 4294967295 = (m : Int) := by
  have key : ∀ m : Nat, m ≤ 16 → bits .and .u64 (m : Int) 4294967295 = (m : Int) := by decide
  exact key m h

theorem wrap_small (m : Nat) (h : m ≤ 16) : IntKind.u64.wrap (m : Int) = (m : Int) := by
  have key : ∀ m : Nat, m ≤ 16 → IntKind.u64.wrap (m : Int) = (m : Int) := by decide
  exact key m h

set_option maxHeartbeats 1000000 in
set_option maxRecDepth 100000 in
theorem mul64_any (m : Nat) (hm : m ≤ 16) (w : World) : Calls Try.prog 66 #[.int .u64 1, .int .u64 (m : Int)] w fun e w' => e = .returned (.tuple #[.int .u64 0, .int .u64 (m : Int)]) ∧ w = w' := by
  have h1 : bits .and .u64 1 4294967295 = 1 := by decide
  have h2 := and_small m hm
  have h3 : (m : Int) / 4294967296 = 0 := by omega
  have h4 : (m : Int) / 2 ^ 32 = 0 := by omega
  have h5 : bits .and .u64 0 4294967295 = 0 := by decide
  have h6 := wrap_small m hm
  have h7 : IntKind.u64.wrap 0 = 0 := by decide
  go_enter Try.func66, Try.ntmps66
  go_wp2_with fail
  go_ret2
  exact ⟨rfl, rfl⟩

theorem mul_any (m : Nat) (hm : m ≤ 16) (w : World) : Calls Try.prog 62 #[.int .u64 1, .int .u64 (m : Int)] w fun e w' => e = .returned (.tuple #[.int .u64 0, .int .u64 (m : Int)]) ∧ w = w' := by
  go_enter Try.func62, Try.ntmps62
  go_wp2_with fail
  refine (mul64_any m hm w).mono ?_
  rintro e w1 ⟨rfl, rfl⟩
  go_wp2_with fail
  go_ret2
  exact ⟨rfl, rfl⟩

theorem setRow_row {w : World} {g : Nat} {t : TypeId} {cs : Array Value} (h : Row w g t cs) (cs' : Array Value) : Row (w.setRow g cs') g t cs' := by
  unfold Row at h ⊢
  simp [World.setRow, Array.getElem?_modify, h]
theorem setRow_below {w w0 : World} {base g : Nat} (h : Below base w0 w) (hg : base ≤ g) (cs' : Array Value) : Below base w0 (w.setRow g cs') := by
  refine ⟨h.os, h.tape, h.output, ?_, fun k hk => ?_⟩
  · simpa [World.setRow] using h.size
  · rw [← h.block k hk]
    simp [World.setRow, Array.getElem?_modify, show ¬ g = k by omega]

/-- A row whose first numbers are -1, the others 0. -/
def fill (k m : Nat) : List Value := List.replicate k (.int .i64 (-1)) ++ List.replicate (m - k) (.int .i64 0)
def RepPost (w : World) (m : Nat) (e : Ending) (w' : World) : Prop :=
  ∃ g, e = .returned (.slice (some ⟨g, 0, none⟩) m m) ∧ Row w' g 3 (List.replicate m (Value.int .i64 (-1))).toArray ∧ w.heap.size ≤ g ∧ Below w.heap.size w w'

theorem info3 : (Try.prog.info? 3).map (fun i => (i.zero, i.size, i.bytes)) = some (some (.int .i64 0), 1, 8) := by kernel_rfl
theorem make30 (m : Nat) (hm : m ≤ 16) (w : World) : (Instr.makeSlice 30 (.int .i64 (m : Int)) (.int .i64 (m : Int))).run Try.prog w = .ok (.slice (some ⟨w.heap.size, 0, none⟩) m m) (w.alloc (.cells (Array.replicate m (Value.int .i64 0)) 3)) := by
  obtain ⟨i0, hi, hz0, hz1, hz2⟩ := info_parts info3
  have h := run_make (P := Try.prog) w 30 3 i0 _ Try.underlying30 hi hz0 .i64 .i64 (m : Int) (m : Int) (by omega) (by omega) (by rw [hz2]; omega) (by omega)
  rw [h, Int.toNat_natCast, hz1, Nat.mul_one]
  congr 3
  apply Array.toList_inj.1
  rw [show (Value.int IntKind.i64 0).cells = #[.int .i64 0] from rfl, toList_madeCells_one, Array.toList_replicate]
theorem fill_len {k m : Nat} (h : k ≤ m) : (fill k m).length = m := by simp [fill]; omega
theorem fill_get {k m j : Nat} (hj : j < k) : (fill k m)[j]? = some (.int .i64 (-1)) := by
  unfold fill
  rw [List.getElem?_append_left (by simpa using hj)]
  simp [hj]
theorem fill_more {k n m : Nat} (h : k + n ≤ m) : (fill k m).take k ++ List.replicate n (Value.int .i64 (-1)) ++ (fill k m).drop (k + n) = fill (k + n) m := by
  unfold fill
  rw [List.take_left' (by simp), List.drop_append, List.drop_of_length_le (by simp), List.nil_append]
  simp [List.replicate_append_replicate]
  omega

/-- What lies ahead is copied behind it. -/
theorem copy_fill {w : World} {g k n r m : Nat} (hr : Row w g 3 (fill k m).toArray) (hkm : k + r = m) (hn : n = Nat.min k r) :
    (Builtin.copy_ #[30, 30] 3 #[.slice (some ⟨g, k, none⟩) r r, .slice (some ⟨g, 0, none⟩) k m]).run Try.prog w = .ok (.int .i64 (n : Int)) (w.setRow g (fill (k + n) m).toArray) := by
  have hs : (Try.prog.info? 3).map (·.size) = some 1 := by
    obtain ⟨i0, hi, hz0, hz1, hz2⟩ := info_parts info3
    rw [hi, Option.map_some, hz1]
  have hle : n ≤ r := by rw [hn]; exact Nat.min_le_right _ _
  have hle2 : n ≤ k := by rw [hn]; exact Nat.min_le_left _ _
  have h := run_copy_row (P := Try.prog) w 30 30 3 3 g k r r ⟨g, 0, none⟩ k m (fill k m).toArray 3 (List.replicate n (Value.int .i64 (-1))) Try.underlying30 hs hr (by rw [List.length_replicate, hn])
    (fun j v hv => by
      rw [Addr.add_lit', Nat.zero_add, hr.cell j]
      have hj : j < n := by have := (List.getElem?_eq_some_iff.1 hv).1; simpa using this
      rw [List.getElem?_replicate, if_pos hj] at hv
      rw [← Option.some.inj hv]
      simpa using fill_get (show j < k by omega))
    (by simp [fill_len (show k ≤ m by omega)]; omega) (by intro v hv; rw [(List.mem_replicate.1 hv).2]; rfl)
  rw [h, List.length_replicate]
  rw [fill_more (by omega)]
  rfl

set_option maxHeartbeats 1000000 in
set_option maxRecDepth 100000 in
theorem rep_any (s m : Nat) (hm : m ≤ 16) (w : World) (hs : Row w s 3 #[.int .i64 (-1)]) :
    Calls Try.prog 39 #[.slice (some ⟨s, 0, none⟩) 1 1, .int .i64 (m : Int)] w (RepPost w m) := by
  have h0 : decide ((m : Int) < 0) = false := by simp
  have h6 := wrap_small m hm
  have h9 : decide (9223372036854775807 < (m : Int)) = false := by simp; omega
  have hmk := make30 m hm w
  have W0 : Row (w.alloc (.cells (Array.replicate m (Value.int .i64 0)) 3)) w.heap.size 3 (Array.replicate m (Value.int .i64 0)) := Row.new _ _ _
  have S0 := hs.alloc (.cells (Array.replicate m (Value.int .i64 0)) 3)
  have B0 := hide (below_alloc w (.cells (Array.replicate m (Value.int .i64 0)) 3))
  have hsz : (Try.prog.info? 3).map (·.size) = some 1 := by
    obtain ⟨i0, hi, hz0, hz1, hz2⟩ := info_parts info3
    rw [hi, Option.map_some, hz1]
  by_cases hm0 : m = 0
  · subst hm0
    have hmk0 : (Instr.makeSlice 30 (.int .i64 0) (.int .i64 0)).run Try.prog w = .ok (.slice (some ⟨w.heap.size, 0, none⟩) 0 0) (w.alloc (.cells #[] 3)) := hmk
    have hc : (Builtin.copy_ #[30, 30] 3 #[.slice (some ⟨w.heap.size, 0, none⟩) 0 0, .slice (some ⟨s, 0, none⟩) 1 1]).run Try.prog (w.alloc (.cells #[] 3)) = .ok (.int .i64 0) (w.alloc (.cells #[] 3)) := run_copy_none (P := Try.prog) (w.alloc (.cells #[] 3)) 30 30 3 3 (some ⟨w.heap.size, 0, none⟩) (some ⟨s, 0, none⟩) 0 0 1 1 Try.underlying30 hsz rfl
    have W0' : Row (w.alloc (.cells #[] 3)) w.heap.size 3 #[] := Row.new _ _ _
    have B0' := hide (below_alloc w (.cells #[] 3))
    clear hmk W0 S0 B0
    go_enter Try.func39, Try.ntmps39
    go_wp2_with fail
    refine (mul_any 0 (by omega) w).mono ?_
    rintro e w1 ⟨rfl, rfl⟩
    go_wp2_with fail
    clear hc hmk0
    generalize w.alloc (.cells #[] 3) = w1 at *
    go_loopw [8] (fun k wr => k = .int .i64 0 ∧ Hid (Row wr w.heap.size 3 #[]) ∧ Hid (Below w.heap.size w wr)) (fun _ _ => 0)
    case atStart => exact ⟨rfl, W0', B0'⟩
    case round =>
      obtain ⟨rfl, hR, hB⟩ := hrel
      go_wp2_with fail
      go_ret
      exact ⟨w.heap.size, rfl, hR.out, Nat.le_refl _, hB.out⟩
  · have hc1 := run_copy_row (P := Try.prog) (w.alloc (.cells (Array.replicate m (Value.int .i64 0)) 3)) 30 30 3 3 w.heap.size 0 m m ⟨s, 0, none⟩ 1 1 (Array.replicate m (Value.int .i64 0)) 3 [.int .i64 (-1)] Try.underlying30 hsz W0 (by simp [Nat.min_def]; omega)
      (fun j v hv => by rw [Addr.add_lit', Nat.zero_add, S0.cell j]; simpa using hv) (by simp; omega) (by intro v hv; simp at hv; subst hv; rfl)
    have hc1' : (Builtin.copy_ #[30, 30] 3 #[.slice (some ⟨w.heap.size, 0, none⟩) m m, .slice (some ⟨s, 0, none⟩) 1 1]).run Try.prog (w.alloc (.cells (Array.replicate m (Value.int .i64 0)) 3)) = .ok (.int .i64 1) ((w.alloc (.cells (Array.replicate m (Value.int .i64 0)) 3)).setRow w.heap.size (fill 1 m).toArray) := by
      rw [hc1]
      congr 3
      simp [fill]
    have R1 := hide (setRow_row W0 (fill 1 m).toArray)
    have B1 := hide (setRow_below B0.out (Nat.le_refl _) (fill 1 m).toArray)
    clear hc1 W0 S0 B0 hs
    go_enter Try.func39, Try.ntmps39
    go_wp2_with fail
    refine (mul_any m hm w).mono ?_
    rintro e w1 ⟨rfl, rfl⟩
    go_wp2_with fail
    clear hc1' hmk
    generalize (w.alloc (.cells (Array.replicate m (Value.int .i64 0)) 3)).setRow w.heap.size (fill 1 m).toArray = w1 at *
    go_loopw [8] (fun k wr => ∃ j : Nat, 1 ≤ j ∧ j ≤ m ∧ k = .int .i64 j ∧ Hid (Row wr w.heap.size 3 (fill j m).toArray) ∧ Hid (Below w.heap.size w wr)) (fun k _ => m - (intOf k).toNat)
    case atStart => exact ⟨1, by omega, by omega, rfl, R1, B1⟩
    case round =>
      obtain ⟨k, hk1, hkm, rfl, hR, hB⟩ := hrel
      by_cases hlt : k < m
      · have hlt' : decide ((k : Int) < (m : Int)) = true := by simp; omega
        obtain ⟨n, hn⟩ : ∃ n, n = Nat.min k (m - k) := ⟨_, rfl⟩
        have hn1 : 1 ≤ n ∧ k + n ≤ m := by rw [hn]; simp only [Nat.min_def]; split <;> omega
        have hcp := copy_fill (w := wr.drew) (g := w.heap.size) (n := n) (show Row wr.drew w.heap.size 3 (fill k m).toArray from hR.out) (show k + (m - k) = m by omega) hn
        have R9 := hide (setRow_row (show Row wr.drew w.heap.size 3 (fill k m).toArray from hR.out) (fill (k + n) m).toArray)
        have B9 := hide (setRow_below hB.out.drew (Nat.le_refl _) (fill (k + n) m).toArray)
        have hne : ¬ m = k := by omega
        clear hn
        go_wp2_with fail
        go_region
        clear hcp hne
        generalize wr.drew.setRow w.heap.size (fill (k + n) m).toArray = w9 at *
        go_wp2_with fail
        exact ⟨⟨k + n, by omega, by omega, by go_num, R9, B9⟩, by simp [intOf]; omega⟩
      · have hlt' : decide ((k : Int) < (m : Int)) = false := by simp; omega
        have hkm' : k = m := by omega
        have hR2 : Row wr w.heap.size 3 (List.replicate m (Value.int .i64 (-1))).toArray := by
          have := hR.out
          rw [hkm'] at this
          simpa [fill] using this
        clear hkm'
        go_wp2_with fail
        go_ret
        exact ⟨w.heap.size, rfl, hR2, Nat.le_refl _, hB.out⟩
end Go.Proofs.Ytfldbkioepcghaa
