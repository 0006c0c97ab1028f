/- Walks over the reference: a corpus of one's own. -/
import Derived.Test.YtbfefjlilmoigaaE2
import Derived.Test.YtbfefjlilmoigaaT12
namespace Go.Proofs.Ytbfefjlilmoigaa
open Go.RowKit
set_option linter.unusedVariables false

theorem manyC_ge : ∀ (l : List Cas) (t : Nat), t ≤ manyC l t
  | [], t => Nat.le_refl _
  | x :: l, t => by
    unfold manyC
    split
    · exact Nat.le_trans (by omega) (manyC_ge l _)
    · omega
theorem manyC_each : ∀ (l : List Cas) (t : Nat), manyC l t ≤ 8000 → ∀ x ∈ l, x.word.length ≤ 8000
  | [], t, _, x, hx => by cases hx
  | y :: l, t, h, x, hx => by
    unfold manyC at h
    split at h
    · rcases List.mem_cons.1 hx with rfl | hx
      · have := manyC_ge l (t + x.word.length); omega
      · exact manyC_each l _ h x hx
    · omega
theorem great_not {l : List Cas} (h : greatC l = false) : l.length ≤ 2100 ∧ ∀ x ∈ l, x.word.length ≤ 8000 := by
  unfold greatC at h
  simp only [Bool.or_eq_false_iff, decide_eq_false_iff_not] at h
  exact ⟨by omega, manyC_each l 0 (by omega)⟩

/-- append of one case onto a row of the call's own. -/
theorem appC {w : World} {ops : Array Oper} {rest : List Oper} {o : Oper} {a : Act} {Q : Exit → Act → World → Prop} (base : Nat) {v : Value} {l : List Cas} (hown : OwnC w base v l) {g : Nat} {x : Cas} {A' : Option Addr} {c' : Nat}
    (hr : Row w g 66 #[.int .i64 x.kind, .int .i64 x.note, .slice A' x.word.length c']) (hw : WordT w A' c' x.word)
    (hlen : l.length ≤ 1000000) (hbase : base ≤ w.heap.size) (hgd : o.guard = none) (s y : Operand)
    (ho : o.op = .call { callee := .builtin .append, args := #[s, y], argTypes := #[35, 35] }) (hs : a.eval s = v) (hx : a.eval y = .slice (some ⟨g, 0, none⟩) 1 1)
    (h : ∀ A2 c2 w', OwnC w' base (.slice A2 (l.length + 1) c2) (l ++ [x]) → Below base w w' → (∀ p t cs, Row w p t cs → t ≠ 66 → Row w' p t cs) → wpList Try.prog ops Q rest (a.put o.dst (.slice A2 (l.length + 1) c2)) w') : wpList Try.prog ops Q (o :: rest) a w := by
  obtain ⟨i0, hi, hz0, hz1, hz2⟩ := info_parts info66
  obtain ⟨us, ho1, ho2⟩ := hown
  have hblk : ∀ k, v.ownBlock = some k → base ≤ k ∧ ∃ cs, w.heap[k]? = some (.cells cs 66 (0, 0)) := fun k hk => OwnC.block ⟨us, ho1, ho2⟩ hk
  refine wpList_plain hgd fun K hK => ?_
  obtain ⟨v', w', hrun, h2, h3, _, _⟩ := run_append_own_at (P := Try.prog) w base 35 o.type 66 i0 _ 3 40 Try.underlying35 hi hz0 hz1 hz2 rfl (by decide) v l.length us ho1 ⟨g, 0, none⟩ 1 1 [.int .i64 x.kind, .int .i64 x.note, .slice A' x.word.length c'] rfl
    (fun j u hu => by rw [Addr.add_lit', Nat.zero_add, hr.cell j]; simpa using hu) (by simp [Value.oneCell']) (by unfold maxLen; omega) (by omega) hbase
  have hoc : OwnC w' base v' (l ++ [x]) := OwnC.snoc ho2 ho1.1 hw h2 h3 fun k hk cs fz hh => by
    obtain ⟨_, cs', h66⟩ := hblk k hk
    rw [h66] at hh
    injection hh with hh
    injection hh with _ h5 _
    exact absurd h5 (by decide)
  obtain ⟨A2, c2, rfl⟩ := hoc.slice
  rw [List.length_append, List.length_singleton] at hoc hrun
  unfold Oper.wp execOp
  simp only [ho, resolve, invoke, builtin, Sem.run_bind, Sem.run_pure, Result.andThen_ok, List.map_toArray, List.map_cons, List.map_nil, hs, hx, hrun]
  refine hK _ _ (h A2 c2 w' hoc ((Below.refl _ _).grown h3 hbase fun k hk => (hblk k hk).1) fun p t cs hp ht => ?_)
  refine (h3.block p hp.lt fun hk => ?_).trans hp
  obtain ⟨_, cs', h66⟩ := hblk p hk.symm
  unfold Row at hp
  rw [hp] at h66
  injection h66 with h66
  injection h66 with _ h5 _
  exact ht h5

theorem OwnC.below {w w' : World} {base : Nat} {v : Value} {l : List Cas} (h : OwnC w base v l) (hb : Below w.heap.size w w') : OwnC w' base v l :=
  h.keep (r := none) ⟨hb.os, hb.tape, hb.output, hb.size, fun k hk _ => hb.block k hk⟩ fun g hg => by cases hg

set_option maxHeartbeats 1000000 in
set_option maxRecDepth 100000 in
theorem copy_any (g : Nat) (A : Option Addr) (n c : Nat) (l : List Cas) (w : World) (hl : Cases w A n l) (hw : ∀ x ∈ l, x.word.length ≤ 8000) (hn : n ≤ 2100) :
    Calls Try.prog 40 #[.agg #[.int .u32 (g : Int), .slice A n c]] w fun e w' => ∃ A' c', e = .returned (.agg #[.int .u32 (g : Int), .slice A' n c']) ∧ OwnC w' w.heap.size (.slice A' n c') l ∧ Below w.heap.size w w' := by
  have HL := hide hl
  have hlen := hide hl.1
  have HW := hide hw
  clear hl hw
  have b1 : Hid (Below w.heap.size w ((w.alloc (.cells #[.int .u32 (g : Int), .slice A n c] 37)).alloc (.cells #[.int .u32 0, .slice none 0 0] 37))) := ((Below.refl _ _).alloc (Nat.le_refl _) _).alloc (by simp) _
  have r1 : Hid (Row ((w.alloc (.cells #[.int .u32 (g : Int), .slice A n c] 37)).alloc (.cells #[.int .u32 0, .slice none 0 0] 37)) w.heap.size 37 #[.int .u32 (g : Int), .slice A n c]) := (Row.new _ _ _).alloc _
  have r2 : Hid (Row ((w.alloc (.cells #[.int .u32 (g : Int), .slice A n c] 37)).alloc (.cells #[.int .u32 0, .slice none 0 0] 37)) (w.heap.size + 1) 37 #[.int .u32 0, .slice none 0 0]) := by
    have := Row.new (w.alloc (.cells #[.int .u32 (g : Int), .slice A n c] 37)) 37 #[.int .u32 0, .slice none 0 0]
    show Row _ _ _ _
    simpa using this
  go_enter Try.func40, Try.ntmps40
  go_wp2_with fail
  generalize (w.alloc (.cells #[.int .u32 (g : Int), .slice A n c] 37)).alloc (.cells #[.int .u32 0, .slice none 0 0] 37) = w1 at *
  go_loopw [3, 4] (fun v i wr => ∃ (j : Nat) (A' : Option Addr) (c' : Nat), j ≤ n ∧ i = .int .i64 j ∧ v = .slice A' j c' ∧ Hid (OwnC wr w.heap.size (.slice A' j c') (l.take j)) ∧ Hid (Below w.heap.size w wr) ∧ Hid (Row wr w.heap.size 37 #[.int .u32 (g : Int), .slice A n c]) ∧ Hid (Row wr (w.heap.size + 1) 37 #[.int .u32 0, .slice none 0 0])) (fun _ i _ => n - (intOf i).toNat)
  case atStart => exact ⟨0, none, 0, by omega, rfl, rfl, OwnC.nil _ _, b1, r1, r2⟩
  case round =>
    obtain ⟨j, A3, c3, hj, rfl, rfl, hoc, hbr, hr1, hr2⟩ := hrel
    have c1 := (hr1.out.cell 1).trans (show _ = some (.slice A n c) from rfl)
    by_cases hlt : j < n
    · have hlt' : decide ((j : Int) < (n : Int)) = true := by simp; omega
      obtain ⟨b, o, x, rfl, hx, A', c', k1, k2, k3, k4⟩ := (HL.out.below hbr.out).at_ hlt
      have hx8 : x.word.length ≤ 8000 := HW.out x (List.mem_of_getElem? hx)
      have hX := hide hx
      have r5 : Row ((wr.alloc (.cells #[.int .i64 x.kind, .int .i64 x.note, .slice A' x.word.length c'] 66)).alloc (.cells #[] 3)) wr.heap.size 66 #[.int .i64 x.kind, .int .i64 x.note, .slice A' x.word.length c'] := (Row.new _ _ _).alloc _
      have b5 : Below wr.heap.size wr ((wr.alloc (.cells #[.int .i64 x.kind, .int .i64 x.note, .slice A' x.word.length c'] 66)).alloc (.cells #[] 3)) := ((Below.refl _ _).alloc (Nat.le_refl _) _).alloc (by simp) _
      have ow5 : OwnI ((wr.alloc (.cells #[.int .i64 x.kind, .int .i64 x.note, .slice A' x.word.length c'] 66)).alloc (.cells #[] 3)) (wr.heap.size + 1) (.slice (some ⟨wr.heap.size + 1, 0, none⟩) 0 0) [] := by
        have : OwnI ((wr.alloc (.cells #[.int .i64 x.kind, .int .i64 x.note, .slice A' x.word.length c'] 66)).alloc (.cells #[] 3)) (wr.alloc (.cells #[.int .i64 x.kind, .int .i64 x.note, .slice A' x.word.length c'] 66)).heap.size (.slice (some ⟨(wr.alloc (.cells #[.int .i64 x.kind, .int .i64 x.note, .slice A' x.word.length c'] 66)).heap.size, 0, none⟩) 0 0) [] := World.ownsRow_made (wr.alloc (.cells #[.int .i64 x.kind, .int .i64 x.note, .slice A' x.word.length c'] 66)) #[] 0 (Nat.le_refl _) (Nat.zero_le _) rfl
        simpa using this
      have wi5 : Ints ((wr.alloc (.cells #[.int .i64 x.kind, .int .i64 x.note, .slice A' x.word.length c'] 66)).alloc (.cells #[] 3)) A' x.word.length x.word := Elems.below k4.1 b5
      have x2 : (wr.alloc (.cells #[.int .i64 x.kind, .int .i64 x.note, .slice A' x.word.length c'] 66)).cell? ⟨wr.heap.size, 2, none⟩ = some (.slice A' x.word.length c') := ((Row.new wr 66 #[.int .i64 x.kind, .int .i64 x.note, .slice A' x.word.length c']).cell 2).trans rfl
      clear hx k4
      generalize hxl : x.word.length = m at *
      go_wp2_with (at_builtin; refine appI (wr.heap.size + 1) ow5 wi5 (by simp only [List.length_nil]; omega) (by simp) rfl _ _ rfl rfl _ rfl ?_)
      intro v6 w6 hown6 hbel6
      obtain ⟨A6, c6, hv6, hwt6⟩ := hown6.word
      rw [hxl] at hv6
      subst hv6
      have r6 := r5.below hbel6 (by omega)
      have b6 : Below wr.heap.size wr w6 := b5.trans (hbel6.mono (by omega))
      have f2 := r6.frozen 2
      have d2 := (r6.cell 2).trans (show _ = some (.slice A' m c') from rfl)
      have r7 : Row (w6.setCell ⟨wr.heap.size, 2, none⟩ (.slice A6 m c6)) wr.heap.size 66 #[.int .i64 x.kind, .int .i64 x.note, .slice A6 m c6] := r6.put 2 _
      have r8 : Row ((w6.setCell ⟨wr.heap.size, 2, none⟩ (.slice A6 m c6)).alloc (.cells #[.int .i64 x.kind, .int .i64 x.note, .slice A6 m c6] 66)) w6.heap.size 66 #[.int .i64 x.kind, .int .i64 x.note, .slice A6 m c6] := by
        have := Row.new (w6.setCell ⟨wr.heap.size, 2, none⟩ (.slice A6 m c6)) 66 #[.int .i64 x.kind, .int .i64 x.note, .slice A6 m c6]
        simpa using this
      have b8 : Below wr.heap.size wr ((w6.setCell ⟨wr.heap.size, 2, none⟩ (.slice A6 m c6)).alloc (.cells #[.int .i64 x.kind, .int .i64 x.note, .slice A6 m c6] 66)) := (b6.setCell (p := ⟨wr.heap.size, 2, none⟩) (Nat.le_refl _) _).alloc (by have := b6.size; simpa using this) _
      have hwt8 : WordT ((w6.setCell ⟨wr.heap.size, 2, none⟩ (.slice A6 m c6)).alloc (.cells #[.int .i64 x.kind, .int .i64 x.note, .slice A6 m c6] 66)) A6 c6 x.word := (hwt6.put r6 (by decide) 2 _).below (below_alloc _ _)
      have hoc8 : OwnC ((w6.setCell ⟨wr.heap.size, 2, none⟩ (.slice A6 m c6)).alloc (.cells #[.int .i64 x.kind, .int .i64 x.note, .slice A6 m c6] 66)) w.heap.size (.slice A3 j c3) (l.take j) := hoc.out.below b8
      have e0 := (r7.cell 0).trans (show _ = some (.int .i64 x.kind) from rfl)
      have e1 := (r7.cell 1).trans (show _ = some (.int .i64 x.note) from rfl)
      have e2 := (r7.cell 2).trans (show _ = some (.slice A6 m c6) from rfl)
      clear r5 b5 ow5 wi5 x2 k1 k2 k3 hown6 hbel6 hwt6 r7
      go_wp2_with (at_builtin; refine appC w.heap.size hoc8 (x := x) (A' := A6) (c' := c6) (by rw [hxl]; exact r8) hwt8 (by rw [List.length_take]; omega) (by have h1 := b8.size; have h2 := hbr.out.size; omega) rfl _ _ rfl rfl rfl ?_)
      intro A9 c9 w9 hoc9 hbel9 hrow9
      rw [show min j l.length = j by have := hlen.out; omega] at hoc9
      have hoc10 : Hid (OwnC w9 w.heap.size (.slice A9 (j + 1) c9) (l.take (j + 1))) := by
        show OwnC _ _ _ _
        rw [List.take_add_one, hX.out]
        exact hoc9
      have hb10 : Hid (Below w.heap.size w w9) := (below_both hbr.out b8 hbr.out.size).trans hbel9
      have hr10 := hide (hrow9 _ _ _ (hr1.out.below b8 hr1.out.lt) (by decide))
      have hr11 := hide (hrow9 _ _ _ (hr2.out.below b8 hr2.out.lt) (by decide))
      clear hrow9 hoc9 hbel9 hoc8 hwt8 b8 r8 e0 e1 e2 r6 b6 f2 d2 hoc hbr hr1 hr2
      go_wp2_with fail
      rw [show min j l.length = j by have := hlen.out; omega]
      exact ⟨⟨j + 1, A9, c9, by omega, by go_num, rfl, hoc10, hb10, hr10, hr11⟩, by simp [intOf]; omega⟩
    · have hlt' : decide ((j : Int) < (n : Int)) = false := by simp; omega
      have hjn : j = n := by omega
      subst hjn
      have hoc2 : Hid (OwnC wr w.heap.size (.slice A3 j c3) l) := by
        have := hoc.out
        rwa [List.take_of_length_le (by rw [hlen.out]; omega)] at this
      have c0 := (hr1.out.cell 0).trans (show _ = some (.int .u32 (g : Int)) from rfl)
      have f1 := hr1.out.frozen 1
      have d0 := (hr2.out.cell 0).trans (show _ = some (.int .u32 0) from rfl)
      have d1 := (hr2.out.cell 1).trans (show _ = some (.slice none 0 0) from rfl)
      have f20 := hr2.out.frozen 0
      have f21 := hr2.out.frozen 1
      clear hoc HL HW hlt
      go_wp2_with fail
      have q1 : Row (wr.setCell ⟨w.heap.size, 1, none⟩ (.slice A3 j c3)) (w.heap.size + 1) 37 #[.int .u32 0, .slice none 0 0] := hr2.out.far (p := ⟨w.heap.size, 1, none⟩) (by show w.heap.size + 1 ≠ w.heap.size; omega) _
      have q3 : Row (((wr.setCell ⟨w.heap.size, 1, none⟩ (.slice A3 j c3)).setCell ⟨w.heap.size + 1, 0, none⟩ (.int .u32 (g : Int))).setCell ⟨w.heap.size + 1, 1, none⟩ (.slice A3 j c3)) (w.heap.size + 1) 37 #[.int .u32 (g : Int), .slice A3 j c3] := (q1.put 0 _).put 1 _
      have o3 : OwnC (((wr.setCell ⟨w.heap.size, 1, none⟩ (.slice A3 j c3)).setCell ⟨w.heap.size + 1, 0, none⟩ (.int .u32 (g : Int))).setCell ⟨w.heap.size + 1, 1, none⟩ (.slice A3 j c3)) w.heap.size (.slice A3 j c3) l :=
        ((hoc2.out.put hr1.out (by decide) (by decide) 1 _).put q1 (by decide) (by decide) 0 _).put (q1.put 0 _) (by decide) (by decide) 1 _
      have b3 : Below w.heap.size w (((wr.setCell ⟨w.heap.size, 1, none⟩ (.slice A3 j c3)).setCell ⟨w.heap.size + 1, 0, none⟩ (.int .u32 (g : Int))).setCell ⟨w.heap.size + 1, 1, none⟩ (.slice A3 j c3)) :=
        ((hbr.out.setCell (p := ⟨w.heap.size, 1, none⟩) (Nat.le_refl _) _).setCell (p := ⟨w.heap.size + 1, 0, none⟩) (by show w.heap.size ≤ w.heap.size + 1; omega) _).setCell (p := ⟨w.heap.size + 1, 1, none⟩) (by show w.heap.size ≤ w.heap.size + 1; omega) _
      clear c0 f1 d0 d1 f20 f21 c1
      generalize (((wr.setCell ⟨w.heap.size, 1, none⟩ (.slice A3 j c3)).setCell ⟨w.heap.size + 1, 0, none⟩ (.int .u32 (g : Int))).setCell ⟨w.heap.size + 1, 1, none⟩ (.slice A3 j c3)) = w9 at *
      have e0 := (q3.cell 0).trans (show _ = some (.int .u32 (g : Int)) from rfl)
      have e1 := (q3.cell 1).trans (show _ = some (.slice A3 j c3) from rfl)
      refine bodyPost_ret (v := .agg #[.int .u32 (g : Int), .slice A3 j c3]) (by simp [results, Try.results40, go_sem, e0, e1]) rfl ?_
      exact ⟨A3, c3, rfl, o3, b3⟩
end Go.Proofs.Ytbfefjlilmoigaa
