/- Walks over corpus: bytes read as a corpus. -/
import Derived.Test.YtbfefjlilmoigaaE1
namespace Go.Proofs.Ytbfefjlilmoigaa
open Go.RowKit
set_option linter.unusedVariables false

/-- What bytes are as a corpus: the digest, the cases, the error's number. -/
def decB (bs : List UInt8) : Nat × List Cas × Nat :=
  if 60000 < bs.length then (0, [], 5) else match openB bs with
    | none => (0, [], 15)
    | some inner => match allR inner with
      | .error z => (0, [], z)
      | .ok (d, l) => (d, l, 0)

def DecPost (w : World) (bs : List UInt8) (e : Ending) (w' : World) : Prop :=
  ∃ v, e = .returned (.tuple #[.agg #[.int .u32 ((decB bs).1 : Int), v], .int .i64 ((decB bs).2.2 : Int)]) ∧ OwnC w' w.heap.size v (decB bs).2.1 ∧ Below w.heap.size w w'

theorem OwnC.mono {w : World} {base base' : Nat} {v : Value} {l : List Cas} (h : OwnC w base v l) (hb : base' ≤ base) : OwnC w base' v l := by
  obtain ⟨us, h1, h2⟩ := h
  exact ⟨us, own_mono h1 hb, h2⟩

set_option maxHeartbeats 1000000 in
set_option maxRecDepth 100000 in
theorem dec_any (A : Option Addr) (n c : Nat) (bs : List UInt8) (w : World) (hb : Bytes w A n bs) (hn : n ≤ 100000000) (hnc : n ≤ c) :
    Calls Try.prog 26 #[.slice A n c] w (DecPost w bs) := by
  have hmf : ∀ (fn : Fn) (first cap : Array Value) (w : World), (Instr.makeFunc fn first cap).run Try.prog w = .ok (.func fn first cap) w := fun _ _ _ _ => rfl
  have H := hide (hb.below (below_alloc w (.cells #[.int .u32 0, .slice none 0 0] 37)) |>.below (below_alloc _ (.cells #[.int .i64 0] 38)))
  have hl := hide hb.len
  have hp1 : Hid (Row ((w.alloc (.cells #[.int .u32 0, .slice none 0 0] 37)).alloc (.cells #[.int .i64 0] 38)) w.heap.size 37 #[.int .u32 0, .slice none 0 0]) := (Row.new _ _ _).alloc _
  have hq1 : Hid (Row ((w.alloc (.cells #[.int .u32 0, .slice none 0 0] 37)).alloc (.cells #[.int .i64 0] 38)) (w.heap.size + 1) 38 #[.int .i64 0]) := by
    have := Row.new (w.alloc (.cells #[.int .u32 0, .slice none 0 0] 37)) 38 #[.int .i64 0]
    show Row _ _ _ _
    simpa using this
  have hb1 : Hid (Below w.heap.size w ((w.alloc (.cells #[.int .u32 0, .slice none 0 0] 37)).alloc (.cells #[.int .i64 0] 38))) := ((Below.refl _ _).alloc (Nat.le_refl _) _).alloc (by simp) _
  clear hb
  by_cases h6 : n ≤ 60000
  · have h6' : decide ((n : Int) ≤ 60000) = true := by simp; omega
    have hd : Hid (decB bs = match openB bs with
      | none => (0, [], 15)
      | some inner => match allR inner with
        | .error z => (0, [], z)
        | .ok (d, l) => (d, l, 0)) := by
      show _ = _
      unfold decB
      rw [if_neg (by have := hl.out; omega)]
    have hlen : ∀ inner, openB bs = some inner → inner.length ≤ 60000 := by
      intro inner hi
      unfold openB at hi
      have := hl.out
      split at hi
      · cases hi
      · split at hi
        · obtain rfl := Option.some.inj hi
          rw [List.length_take]; omega
        · cases hi
    have hlen := hide hlen
    clear hl h6
    go_enter_defers Try.func26, Try.ntmps26
    go_wp2_with fail
    refine (ask_yes _ _).mono ?_
    rintro e w2 ⟨rfl, rfl⟩
    have hsz : w.heap.size + 2 ≤ ((w.alloc (.cells #[.int .u32 0, .slice none 0 0] 37)).alloc (.cells #[.int .i64 0] 38)).heap.size := by simp
    generalize (w.alloc (.cells #[.int .u32 0, .slice none 0 0] 37)).alloc (.cells #[.int .i64 0] 38) = w2 at *
    go_wp2_with fail
    refine (open_any A n c bs _ H.out hn hnc).mono ?_
    rintro e w3 ⟨v3, rfl, hown3, hbel3⟩
    obtain ⟨A1, c1, hv, hB1, hc1, hm1⟩ := hown3.form
    subst hv
    cases ho : openB bs with
    | none =>
      have hres : Hid (decB bs = (0, [], 15)) := by show _ = _; rw [hd.out, ho]
      rw [ho] at hown3 hB1 hc1
      have hp3 := hide (hp1.out.below hbel3 (by omega))
      have hq3 := hide (hq1.out.below hbel3 (by omega))
      have hb3 := hide (hb1.out.trans (hbel3.mono (by omega)))
      clear ho hown3 hB1 hbel3 hd hlen
      go_wp2_with fail
      refine (ask_no _ _).mono ?_
      rintro e w4 ⟨rfl, rfl⟩
      go_wp2_with fail
      refine leaves_cons (f := 49) (args := #[.pointer (some ⟨w.heap.size, 0, none⟩), .pointer (some ⟨w.heap.size + 1, 0, none⟩)]) (by simp) (by simp [go_sem]) ?_
      refine (catch_wrong w.heap.size w.heap.size (w.heap.size + 1) _ _ _ 15 _ hp3.out hq3.out (by omega) (Nat.le_refl _) (by omega)).mono ?_
      rintro e u' w'' ⟨rfl, rfl, hp2, hq2, hb2⟩
      have d0 := (hp2.cell 0).trans (show _ = some (.int .u32 0) from rfl)
      have d1 := (hp2.cell 1).trans (show _ = some (.slice none 0 0) from rfl)
      have d2 := (hq2.cell 0).trans (show _ = some (.int .i64 15) from rfl)
      refine ⟨.tuple #[.agg #[.int .u32 0, .slice none 0 0], .int .i64 15], by simp [results, Try.results26, go_sem, d0, d1, d2], .slice none 0 0, ?_, ?_, hb3.out.trans hb2⟩
      · rw [hres.out]; rfl
      · rw [hres.out]; exact OwnC.nil _ _
    | some inner =>
      have hi6 := hlen.out inner ho
      have hd2 : Hid (decB bs = match allR inner with
        | .error z => (0, [], z)
        | .ok (d, l) => (d, l, 0)) := by show _ = _; rw [hd.out, ho]
      rw [ho] at hown3 hB1 hc1
      have hp3 := hide (hp1.out.below hbel3 (by omega))
      have hq3 := hide (hq1.out.below hbel3 (by omega))
      have hb3 := hide (hb1.out.trans (hbel3.mono (by omega)))
      have hA : ∀ a, A1 = some a → a.block < w3.heap.size := by
        intro a ha
        rcases hown3.2 with ⟨h, _⟩ | ⟨g', cap, cur, h, _, hh, _⟩
        · injection h with h _ _; rw [h] at ha; cases ha
        · injection h with h _ _
          rw [h] at ha
          obtain rfl := Option.some.inj ha
          exact (Array.getElem?_eq_some_iff.1 hh).1
      dsimp only [Option.getD_some] at hB1 hc1
      have hR4 : Hid (Rd (w3.alloc (.cells #[.slice A1 inner.length c1, .int .i64 0] 73)) w3.heap.size A1 inner.length c1 0) := Row.new _ _ _
      have hB4 : Hid (Bytes (w3.alloc (.cells #[.slice A1 inner.length c1, .int .i64 0] 73)) A1 inner.length inner) := hB1.below (below_alloc _ _)
      have hp4 := hide (hp3.out.alloc (.cells #[.slice A1 inner.length c1, .int .i64 0] 73))
      have hq4 := hide (hq3.out.alloc (.cells #[.slice A1 inner.length c1, .int .i64 0] 73))
      have hb4 : Hid (Below w.heap.size w (w3.alloc (.cells #[.slice A1 inner.length c1, .int .i64 0] 73))) := hb3.out.alloc (hb3.out.size) _
      have hs4 : w3.heap.size < (w3.alloc (.cells #[.slice A1 inner.length c1, .int .i64 0] 73)).heap.size := by simp
      have hw3 : w.heap.size + 2 ≤ w3.heap.size := Nat.le_trans hsz hbel3.size
      have hA' := hide hA
      clear ho hown3 hB1 hbel3 hd hlen hA hp3 hq3 hb3 hp1 hq1 hb1 hsz
      go_wp2_with fail
      refine (ask_yes _ _).mono ?_
      rintro e w4 ⟨rfl, rfl⟩
      go_wp2_with fail
      generalize hg : w3.heap.size = g at *
      generalize w3.alloc (.cells #[.slice A1 inner.length c1, .int .i64 0] 73) = w4 at *
      have C := all_any g A1 inner.length c1 inner w4 hR4.out hB4.out (fun a ha => by have := hA'.out a ha; omega) (by omega) hc1 (by have := hm1; unfold maxLen at this; omega)
      cases hx : allR inner with
      | error z =>
        have hres : Hid (decB bs = (0, [], z)) := by show _ = _; rw [hd2.out, hx]
        rw [hx] at C
        refine C.mono ?_
        rintro e w5 ⟨hk5, he⟩
        dsimp only at he
        unfold wrongP at he
        subst he
        have hp5 := hide (hk5.row hp4.out (by omega))
        have hq5 := hide (hk5.row hq4.out (by omega))
        have hb5 : Hid (Below w.heap.size w w5) := hb4.out.grown hk5 hb4.out.size (fun k hk => by obtain rfl := Option.some.inj hk; omega)
        clear hx C hd2 hk5 hB4 hR4 hp4 hq4 hb4 hA'
        go_wp2_with fail
        refine leaves_cons (f := 49) (args := #[.pointer (some ⟨w.heap.size, 0, none⟩), .pointer (some ⟨w.heap.size + 1, 0, none⟩)]) (by simp) (by simp [go_sem]) ?_
        refine (catch_wrong w.heap.size w.heap.size (w.heap.size + 1) _ _ _ (z : Int) _ hp5.out hq5.out (by omega) (Nat.le_refl _) (by omega)).mono ?_
        rintro e u' w'' ⟨rfl, rfl, hp2, hq2, hb2⟩
        have d0 := (hp2.cell 0).trans (show _ = some (.int .u32 0) from rfl)
        have d1 := (hp2.cell 1).trans (show _ = some (.slice none 0 0) from rfl)
        have d2 := (hq2.cell 0).trans (show _ = some (.int .i64 (z : Int)) from rfl)
        refine ⟨.tuple #[.agg #[.int .u32 0, .slice none 0 0], .int .i64 (z : Int)], by simp [results, Try.results26, go_sem, d0, d1, d2], .slice none 0 0, ?_, ?_, hb5.out.trans hb2⟩
        · rw [hres.out]; rfl
        · rw [hres.out]; exact OwnC.nil _ _
      | ok r =>
        obtain ⟨d, l⟩ := r
        have hres : Hid (decB bs = (d, l, 0)) := by show _ = _; rw [hd2.out, hx]
        rw [hx] at C
        refine C.mono ?_
        rintro e w5 ⟨hk5, v5, rfl, hoc5⟩
        have hp5 := hide (hk5.row hp4.out (by omega))
        have hq5 := hide (hk5.row hq4.out (by omega))
        have hb5 : Hid (Below w.heap.size w w5) := hb4.out.grown hk5 hb4.out.size (fun k hk => by obtain rfl := Option.some.inj hk; omega)
        obtain ⟨A5, c5, rfl⟩ := hoc5.slice
        have hoc := hide hoc5
        clear hx C hd2 hk5 hB4 hR4 hp4 hq4 hb4 hA' hoc5
        have p0 := (hp5.out.cell 0).trans (show _ = some (.int .u32 0) from rfl)
        have p1 := (hp5.out.cell 1).trans (show _ = some (.slice none 0 0) from rfl)
        have q0 := (hq5.out.cell 0).trans (show _ = some (.int .i64 0) from rfl)
        have fp0 := hp5.out.frozen 0
        have fp1 := hp5.out.frozen 1
        have fq0 := hq5.out.frozen 0
        go_wp2_with fail
        have hp6 : Row (((w5.setCell ⟨w.heap.size, 0, none⟩ (.int .u32 (d : Int))).setCell ⟨w.heap.size, 1, none⟩ (.slice A5 l.length c5)).setCell ⟨w.heap.size + 1, 0, none⟩ (.int .i64 0)) w.heap.size 37 #[.int .u32 (d : Int), .slice A5 l.length c5] :=
          Row.far (p := ⟨w.heap.size + 1, 0, none⟩) ((hp5.out.put 0 _).put 1 _) (by show _ ≠ w.heap.size + 1; omega) _
        have hq6 : Row (((w5.setCell ⟨w.heap.size, 0, none⟩ (.int .u32 (d : Int))).setCell ⟨w.heap.size, 1, none⟩ (.slice A5 l.length c5)).setCell ⟨w.heap.size + 1, 0, none⟩ (.int .i64 0)) (w.heap.size + 1) 38 #[.int .i64 0] :=
          Row.put (Row.far (p := ⟨w.heap.size, 1, none⟩) (Row.far (p := ⟨w.heap.size, 0, none⟩) hq5.out (by show w.heap.size + 1 ≠ w.heap.size; omega) _) (by show w.heap.size + 1 ≠ w.heap.size; omega) _) 0 _
        have hoc6 : OwnC (((w5.setCell ⟨w.heap.size, 0, none⟩ (.int .u32 (d : Int))).setCell ⟨w.heap.size, 1, none⟩ (.slice A5 l.length c5)).setCell ⟨w.heap.size + 1, 0, none⟩ (.int .i64 0)) w.heap.size (.slice A5 l.length c5) l :=
          (((hoc.out.put hp5.out (by decide) (by decide) 0 _).put (hp5.out.put 0 _) (by decide) (by decide) 1 _).put (Row.far (p := ⟨w.heap.size, 1, none⟩) (Row.far (p := ⟨w.heap.size, 0, none⟩) hq5.out (by show w.heap.size + 1 ≠ w.heap.size; omega) _) (by show w.heap.size + 1 ≠ w.heap.size; omega) _) (by decide) (by decide) 0 _).mono (by omega)
        have hb6 : Below w.heap.size w (((w5.setCell ⟨w.heap.size, 0, none⟩ (.int .u32 (d : Int))).setCell ⟨w.heap.size, 1, none⟩ (.slice A5 l.length c5)).setCell ⟨w.heap.size + 1, 0, none⟩ (.int .i64 0)) :=
          ((hb5.out.setCell (p := ⟨w.heap.size, 0, none⟩) (Nat.le_refl _) _).setCell (p := ⟨w.heap.size, 1, none⟩) (Nat.le_refl _) _).setCell (p := ⟨w.heap.size + 1, 0, none⟩) (by show w.heap.size ≤ w.heap.size + 1; omega) _
        clear p0 p1 q0 fp0 fp1 fq0
        generalize ((w5.setCell ⟨w.heap.size, 0, none⟩ (.int .u32 (d : Int))).setCell ⟨w.heap.size, 1, none⟩ (.slice A5 l.length c5)).setCell ⟨w.heap.size + 1, 0, none⟩ (.int .i64 0) = w6 at *
        refine leaves_cons (f := 49) (args := #[.pointer (some ⟨w.heap.size, 0, none⟩), .pointer (some ⟨w.heap.size + 1, 0, none⟩)]) (by simp) (by simp [go_sem]) ?_
        refine (catch_idle _ _ _).mono ?_
        rintro e u' w'' ⟨rfl, rfl, rfl⟩
        have d0 := (hp6.cell 0).trans (show _ = some (.int .u32 (d : Int)) from rfl)
        have d1 := (hp6.cell 1).trans (show _ = some (.slice A5 l.length c5) from rfl)
        have d2 := (hq6.cell 0).trans (show _ = some (.int .i64 0) from rfl)
        refine ⟨.tuple #[.agg #[.int .u32 (d : Int), .slice A5 l.length c5], .int .i64 0], by simp [results, Try.results26, go_sem, d0, d1, d2], .slice A5 l.length c5, ?_, ?_, hb6⟩
        · rw [hres.out]; rfl
        · rw [hres.out]; exact hoc6
  · have h6' : decide ((n : Int) ≤ 60000) = false := by simp; omega
    have hres : Hid (decB bs = (0, [], 5)) := by
      show _ = _
      unfold decB
      rw [if_pos (by have := hl.out; omega)]
    clear hl h6
    go_enter_defers Try.func26, Try.ntmps26
    go_wp2_with fail
    refine (ask_no _ _).mono ?_
    rintro e w2 ⟨rfl, rfl⟩
    go_wp2_with fail
    refine leaves_cons (f := 49) (args := #[.pointer (some ⟨w.heap.size, 0, none⟩), .pointer (some ⟨w.heap.size + 1, 0, none⟩)]) (by simp) (by simp [go_sem]) ?_
    refine (catch_wrong w.heap.size w.heap.size (w.heap.size + 1) _ _ _ 5 _ hp1.out hq1.out (by omega) (Nat.le_refl _) (by omega)).mono ?_
    rintro e u' w'' ⟨rfl, rfl, hp2, hq2, hb2⟩
    have d0 := (hp2.cell 0).trans (show _ = some (.int .u32 0) from rfl)
    have d1 := (hp2.cell 1).trans (show _ = some (.slice none 0 0) from rfl)
    have d2 := (hq2.cell 0).trans (show _ = some (.int .i64 5) from rfl)
    refine ⟨.tuple #[.agg #[.int .u32 0, .slice none 0 0], .int .i64 5], by simp [results, Try.results26, go_sem, d0, d1, d2], .slice none 0 0, ?_, ?_, hb1.out.trans hb2⟩
    · rw [hres.out]; rfl
    · rw [hres.out]; exact OwnC.nil _ _
end Go.Proofs.Ytbfefjlilmoigaa
