/- Walks over pack: a row looked up, rows shared. -/
import Derived.Test.YtfldbkioepcghaaT3
namespace Go.Proofs.Ytfldbkioepcghaa
open Go.RowKit
set_option linter.unusedVariables false

section
variable {α : Type} {f : α → List Value} {k e base base' eo ei : Nat} {w w' : World} {v : Value} {ll : List (List α)} {l : List α}
theorem OwnR.grown {e' k' n' : Nat} {v' : Value} {xs' : List Value} (h : OwnR w base e k f v l) (ho : w.ownsRow base' e' k' v' n' xs') (hg : w.grownBy w' v'.ownBlock) (hne : e' ≠ e) : OwnR w' base e k f v l :=
  World.ownsRow.kept h hg (by
    cases hv : v.ownBlock with
    | none => exact .inl rfl
    | some p =>
      refine .inr ?_
      intro hb
      obtain ⟨_, _, r1⟩ := own_block h hv
      obtain ⟨_, _, r2⟩ := own_block ho hb.symm
      exact hne (r2.ty r1))
theorem OwnN.grown {e' k' n' : Nat} {v' : Value} {xs' : List Value} (h : OwnN w base eo ei k f v ll) (ho : w.ownsRow base' e' k' v' n' xs') (hg : w.grownBy w' v'.ownBlock) (h1 : e' ≠ ei) (h2 : e' ≠ eo) : OwnN w' base eo ei k f v ll := by
  refine h.keep hg fun p hp => ?_
  obtain ⟨_, _, r2⟩ := own_block ho hp
  refine ⟨fun cs fz hh => h1 (r2.ty hh), fun hb => ?_⟩
  obtain ⟨_, _, r1⟩ := h.block hb
  exact h2 (r2.ty r1)
theorem OwnN.owns (h : OwnN w base eo ei k f v ll) : ∃ us, w.ownsRow base eo 1 v ll.length us := by
  obtain ⟨us, h1, _⟩ := h
  exact ⟨us, h1⟩
end

/-- Where a row stands among rows, or -1. -/
def idxF {α : Type} [DecidableEq α] : List (List α) → List α → Nat → Int
  | [], _, _ => -1
  | y :: l, x, i => if x = y then (i : Int) else idxF l x (i + 1)
theorem idxF_found {α : Type} [DecidableEq α] : ∀ {ll : List (List α)} {x : List α} {i j : Nat}, (ll.take j).all (fun y => !decide (x = y)) = true → ll[j]? = some x → idxF ll x i = ((i + j : Nat) : Int)
  | [], x, i, j, _, h => by simp at h
  | y :: l, x, i, 0, _, h => by
    obtain rfl : y = x := by simpa using h
    simp [idxF]
  | y :: l, x, i, j + 1, ht, h => by
    have h' : l[j]? = some x := by simpa using h
    rw [List.take_succ_cons, List.all_cons, Bool.and_eq_true] at ht
    have hy : ¬ x = y := by simpa using ht.1
    rw [idxF, if_neg hy, idxF_found ht.2 h']
    congr 1; omega
theorem idxF_none {α : Type} [DecidableEq α] : ∀ {ll : List (List α)} {x : List α} {i : Nat}, ll.all (fun y => !decide (x = y)) = true → idxF ll x i = -1
  | [], x, i, _ => rfl
  | y :: l, x, i, ht => by
    rw [List.all_cons, Bool.and_eq_true] at ht
    have hy : ¬ x = y := by simpa using ht.1
    rw [idxF, if_neg hy, idxF_none ht.2]
theorem idxF_cases {α : Type} [DecidableEq α] : ∀ (ll : List (List α)) (x : List α) (i : Nat), (idxF ll x i = -1 ∧ ∀ y ∈ ll, x ≠ y) ∨ ∃ j : Nat, idxF ll x i = ((i + j : Nat) : Int) ∧ ll[j]? = some x
  | [], x, i => .inl ⟨rfl, by simp⟩
  | y :: l, x, i => by
    by_cases h : x = y
    · exact .inr ⟨0, by rw [idxF, if_pos h]; rfl, by simp [h]⟩
    · rcases idxF_cases l x (i + 1) with ⟨h1, h2⟩ | ⟨j, h1, h2⟩
      · refine .inl ⟨by rw [idxF, if_neg h, h1], fun z hz => ?_⟩
        rcases List.mem_cons.1 hz with rfl | hz
        · exact h
        · exact h2 z hz
      · exact .inr ⟨j + 1, by rw [idxF, if_neg h, h1]; congr 1; omega, by simpa using h2⟩

/-- Rows, each that is like another one once, and which one each is. -/
def shareF {α β : Type} [DecidableEq α] (pk : List β → List α) : List (List β) → List (List α) → List Int → List (List α) × List Int
  | [], all, of => (all, of)
  | r :: rs, all, of => if idxF all (pk r) 0 < 0 then shareF pk rs (all ++ [pk r]) (of ++ [(all.length : Int)]) else shareF pk rs all (of ++ [idxF all (pk r) 0])
def IdxPost (w : World) (z : Int) (e : Ending) (w' : World) : Prop := e = .returned (.int .i64 z) ∧ Below w.heap.size w w'
def SharePost {α : Type} (w : World) (eo ei k : Nat) (f : α → List Value) (r : List (List α) × List Int) (e : Ending) (w' : World) : Prop :=
  ∃ A c B d, e = .returned (.tuple #[.slice A r.1.length c, .slice B r.2.length d]) ∧ OwnN w' w.heap.size eo ei k f (.slice A r.1.length c) r.1 ∧ OwnR w' w.heap.size 3 1 f1 (.slice B r.2.length d) r.2 ∧ Below w.heap.size w w'

set_option maxHeartbeats 1000000 in
set_option maxRecDepth 100000 in
theorem clo_59 (p : Nat) (A B : Option Addr) (m c d : Nat) (l k : List (Int × Int × Int)) (w : World) (hp : Row w p 61 #[.slice A l.length c]) (h1 : In w 3 f3 A l.length l) (h2 : In w 3 f3 B m k) (hc : l.length ≤ 9223372036854775807) (hm : m ≤ 9223372036854775807) :
    Calls Try.prog 59 #[.slice B m d, .pointer (some ⟨p, 0, none⟩)] w (EqPost w (decide (l = k))) := by
  have C := eq_51 A B l.length m c d l k w h1 h2 hc hm
  have c0 := (hp.cell 0).trans (show _ = some (.slice A l.length c) from rfl)
  clear hp h1 h2
  go_enter Try.func59, Try.ntmps59
  go_wp2_with fail
  refine C.mono ?_
  rintro e w1 ⟨rfl, hb⟩
  clear C
  go_wp2_with fail
  go_ret
  exact ⟨rfl, hb⟩

set_option maxHeartbeats 1000000 in
set_option maxRecDepth 100000 in
theorem idx_58 (p : Nat) (A X : Option Addr) (n c cx : Nat) (ll : List (List (Int × Int × Int))) (x : List (Int × Int × Int)) (w : World) (h : Nest w 3 f3 A n ll) (hn : n ≤ 1000000) (hp : Row w p 61 #[.slice X x.length cx]) (hx : In w 3 f3 X x.length x) (hxl : x.length ≤ 9223372036854775807) :
    Calls Try.prog 58 #[.slice A n c, .func (.func 59) #[] #[.pointer (some ⟨p, 0, none⟩)]] w (IdxPost w (idxF ll x 0)) := by
  have H := hide h
  have hlen := hide h.1
  have HP := hide hp
  have HX := hide hx
  clear h hp hx
  go_enter Try.func58, Try.ntmps58
  go_wp2_with fail
  go_loopw [5, 8] (fun _ i wr => ∃ j : Nat, j ≤ n ∧ i = .int .i64 j ∧ Hid ((ll.take j).all (fun y => !decide (x = y)) = true) ∧ Hid (Below w.heap.size w wr)) (fun _ i _ => n - (intOf i).toNat)
  case atStart => exact ⟨0, by omega, rfl, rfl, Below.refl _ _⟩
  case round =>
    obtain ⟨j, hj, rfl, ht, hb⟩ := hrel
    by_cases hlt : j < n
    · have hlt' : decide ((j : Int) < (n : Int)) = true := by simp; omega
      have hltp : (j : Int) < (n : Int) := by omega
      obtain ⟨b, o, row, A', c', rfl, hr, z1, z2, z3, z4⟩ := (H.out.below hb.out).at_ hlt
      have C := clo_59 p X A' row.length cx c' x row wr (HP.out.below hb.out HP.out.lt) (HX.out.below hb.out) z2 hxl (by omega)
      have hR := hide hr
      clear hr z2
      by_cases hxy : x = row
      · have hf : Hid (idxF ll x 0 = (j : Int)) := by show _ = _; rw [idxF_found ht.out (hxy ▸ hR.out), Nat.zero_add]
        rw [decide_eq_true hxy] at C
        clear hR hxy ht
        go_wp2_with fail
        refine C.mono ?_
        rintro e w3 ⟨rfl, hb3⟩
        have hb4 := hide (below_both hb.out hb3 hb.out.size)
        clear C hb3
        go_wp2_with fail
        go_ret
        exact ⟨by rw [hf.out]; rfl, hb4.out⟩
      · have ht2 : Hid ((ll.take (j + 1)).all (fun y => !decide (x = y)) = true) := all_take hR.out (by simp [hxy]) ht.out
        rw [decide_eq_false hxy] at C
        clear hR hxy ht
        go_wp2_with fail
        refine C.mono ?_
        rintro e w3 ⟨rfl, hb3⟩
        have hb4 := hide (below_both hb.out hb3 hb.out.size)
        clear C hb3
        go_wp2_with fail
        exact ⟨⟨j + 1, by omega, by go_num, ht2, hb4⟩, by simp [intOf]; omega⟩
    · have hlt' : decide ((j : Int) < (n : Int)) = false := by simp; omega
      have hf : Hid (idxF ll x 0 = -1) := idxF_none (all_end (by rw [hlen.out]; omega) ht.out)
      go_wp2_with fail
      go_ret
      exact ⟨by rw [hf.out]; rfl, hb.out⟩

set_option maxHeartbeats 1000000 in
set_option maxRecDepth 100000 in
theorem clo_61 (p : Nat) (A B : Option Addr) (m c d : Nat) (l k : List (Int × Int)) (w : World) (hp : Row w p 62 #[.slice A l.length c]) (h1 : In w 2 f2 A l.length l) (h2 : In w 2 f2 B m k) (hc : l.length ≤ 9223372036854775807) (hm : m ≤ 9223372036854775807) :
    Calls Try.prog 61 #[.slice B m d, .pointer (some ⟨p, 0, none⟩)] w (EqPost w (decide (l = k))) := by
  have C := eq_53 A B l.length m c d l k w h1 h2 hc hm
  have c0 := (hp.cell 0).trans (show _ = some (.slice A l.length c) from rfl)
  clear hp h1 h2
  go_enter Try.func61, Try.ntmps61
  go_wp2_with fail
  refine C.mono ?_
  rintro e w1 ⟨rfl, hb⟩
  clear C
  go_wp2_with fail
  go_ret
  exact ⟨rfl, hb⟩

set_option maxHeartbeats 1000000 in
set_option maxRecDepth 100000 in
theorem idx_60 (p : Nat) (A X : Option Addr) (n c cx : Nat) (ll : List (List (Int × Int))) (x : List (Int × Int)) (w : World) (h : Nest w 2 f2 A n ll) (hn : n ≤ 1000000) (hp : Row w p 62 #[.slice X x.length cx]) (hx : In w 2 f2 X x.length x) (hxl : x.length ≤ 9223372036854775807) :
    Calls Try.prog 60 #[.slice A n c, .func (.func 61) #[] #[.pointer (some ⟨p, 0, none⟩)]] w (IdxPost w (idxF ll x 0)) := by
  have H := hide h
  have hlen := hide h.1
  have HP := hide hp
  have HX := hide hx
  clear h hp hx
  go_enter Try.func60, Try.ntmps60
  go_wp2_with fail
  go_loopw [5, 8] (fun _ i wr => ∃ j : Nat, j ≤ n ∧ i = .int .i64 j ∧ Hid ((ll.take j).all (fun y => !decide (x = y)) = true) ∧ Hid (Below w.heap.size w wr)) (fun _ i _ => n - (intOf i).toNat)
  case atStart => exact ⟨0, by omega, rfl, rfl, Below.refl _ _⟩
  case round =>
    obtain ⟨j, hj, rfl, ht, hb⟩ := hrel
    by_cases hlt : j < n
    · have hlt' : decide ((j : Int) < (n : Int)) = true := by simp; omega
      have hltp : (j : Int) < (n : Int) := by omega
      obtain ⟨b, o, row, A', c', rfl, hr, z1, z2, z3, z4⟩ := (H.out.below hb.out).at_ hlt
      have C := clo_61 p X A' row.length cx c' x row wr (HP.out.below hb.out HP.out.lt) (HX.out.below hb.out) z2 hxl (by omega)
      have hR := hide hr
      clear hr z2
      by_cases hxy : x = row
      · have hf : Hid (idxF ll x 0 = (j : Int)) := by show _ = _; rw [idxF_found ht.out (hxy ▸ hR.out), Nat.zero_add]
        rw [decide_eq_true hxy] at C
        clear hR hxy ht
        go_wp2_with fail
        refine C.mono ?_
        rintro e w3 ⟨rfl, hb3⟩
        have hb4 := hide (below_both hb.out hb3 hb.out.size)
        clear C hb3
        go_wp2_with fail
        go_ret
        exact ⟨by rw [hf.out]; rfl, hb4.out⟩
      · have ht2 : Hid ((ll.take (j + 1)).all (fun y => !decide (x = y)) = true) := all_take hR.out (by simp [hxy]) ht.out
        rw [decide_eq_false hxy] at C
        clear hR hxy ht
        go_wp2_with fail
        refine C.mono ?_
        rintro e w3 ⟨rfl, hb3⟩
        have hb4 := hide (below_both hb.out hb3 hb.out.size)
        clear C hb3
        go_wp2_with fail
        exact ⟨⟨j + 1, by omega, by go_num, ht2, hb4⟩, by simp [intOf]; omega⟩
    · have hlt' : decide ((j : Int) < (n : Int)) = false := by simp; omega
      have hf : Hid (idxF ll x 0 = -1) := idxF_none (all_end (by rw [hlen.out]; omega) ht.out)
      go_wp2_with fail
      go_ret
      exact ⟨by rw [hf.out]; rfl, hb.out⟩

set_option maxHeartbeats 1000000 in
set_option maxRecDepth 100000 in
theorem share_28 (A : Option Addr) (n c : Nat) (ll : List (List (Int × Int))) (w : World) (h : Nest w 2 f2 A n ll) (hn : n ≤ 1000) (hrow : ∀ r ∈ ll, r.length ≤ 1000) :
    Calls Try.prog 28 #[.slice A n c, .func (.func 29) #[] #[]] w (SharePost w 61 54 3 f3 (shareF (fun r => entF r 0) ll [] [])) := by
  have hmf : ∀ (fn : Fn) (first cap : Array Value) (w : World), (Instr.makeFunc fn first cap).run Try.prog w = .ok (.func fn first cap) w := fun _ _ _ _ => rfl
  have H := hide h
  have hlen := hide h.1
  have HR := hide hrow
  clear h hrow
  go_enter Try.func28, Try.ntmps28
  go_wp2_with fail
  go_loopw [4, 5, 12] (fun va vo i wr => ∃ (j m cA cB : Nat) (A' B' : Option Addr) (all : List (List (Int × Int × Int))) (of : List Int), j ≤ n ∧ i = .int .i64 j ∧ va = .slice A' m cA ∧ vo = .slice B' j cB ∧ m ≤ j ∧ Hid (all.length = m) ∧ Hid (of.length = j) ∧
    Hid (OwnN wr w.heap.size 61 54 3 f3 (.slice A' m cA) all) ∧ Hid (OwnR wr w.heap.size 3 1 f1 (.slice B' j cB) of) ∧ Hid (Below w.heap.size w wr) ∧ Hid (shareF (fun r => entF r 0) (ll.drop j) all of = shareF (fun r => entF r 0) ll [] [])) (fun _ _ i _ => n - (intOf i).toNat)
  case atStart => exact ⟨0, 0, 0, 0, none, none, [], [], by omega, rfl, rfl, rfl, by omega, rfl, rfl, OwnN.nil _ _ _ _ _ _, OwnR.nil _ _ _ _ _, Below.refl _ _, rfl⟩
  case round =>
    obtain ⟨j, m, cA, cB, A', B', all, of, hj, rfl, rfl, rfl, hmj, hal, hol, hN, hO, hb, hsh⟩ := hrel
    by_cases hlt : j < n
    · have hlt' : decide ((j : Int) < (n : Int)) = true := by simp; omega
      have hltp : (j : Int) < (n : Int) := by omega
      obtain ⟨b, o, row, A1, c1, rfl, hr, z1, z2, z3, z4⟩ := (H.out.below hb.out).at_ hlt
      have hr1 := HR.out row (List.mem_of_getElem? hr)
      have CP := entries_any A1 row.length c1 row wr z2 (by omega)
      unfold PackPost at CP
      have hsh2 : Hid ((if idxF all (entF row 0) 0 < 0 then shareF (fun r => entF r 0) (ll.drop (j + 1)) (all ++ [entF row 0]) (of ++ [(all.length : Int)]) else shareF (fun r => entF r 0) (ll.drop (j + 1)) all (of ++ [idxF all (entF row 0) 0])) = shareF (fun r => entF r 0) ll [] []) := by
        show _ = _
        have h1 := hsh.out
        have hjl := (List.getElem?_eq_some_iff.1 hr).1
        rw [List.drop_eq_getElem_cons hjl, show ll[j] = row by rw [List.getElem?_eq_getElem hjl] at hr; exact Option.some.inj hr, shareF] at h1
        exact h1
      have hpl := entF_len row 0
      obtain ⟨x, hxe⟩ : ∃ x, x = entF row 0 := ⟨_, rfl⟩
      rw [← hxe] at CP hsh2 hpl
      clear hr hxe hsh z2
      go_wp2_with fail
      refine CP.mono ?_
      rintro e w1 ⟨v1, rfl, hO1, hbel1⟩
      clear CP
      obtain ⟨X, cx, rfl, hX1⟩ := hO1.inT
      have hx1000 : x.length ≤ 1000 := by omega
      have b2 : Below wr.heap.size wr (w1.alloc (.cells #[.slice X x.length cx] 61)) := hbel1.alloc hbel1.size _
      have hb2 := hide (below_both hb.out b2 hb.out.size)
      have hN2 := hide (hN.out.below b2)
      have hO2 := hide (hO.out.below b2)
      have hX2 := hide (hX1.below (below_alloc w1 (.cells #[.slice X x.length cx] 61)))
      have R2 : Hid (Row (w1.alloc (.cells #[.slice X x.length cx] 61)) w1.heap.size 61 #[.slice X x.length cx]) := Row.new _ _ _
      clear hO1 hbel1 hX1 b2 hN hO hb
      go_wp2_with fail
      generalize w1.alloc (.cells #[.slice X x.length cx] 61) = w2 at *
      have hNE : Nest w2 3 f3 A' m all := by have := hN2.out.nest; rwa [hal.out] at this
      have CI := idx_58 w1.heap.size A' X m cA cx all x w2 hNE (by omega) R2.out hX2.out.1 (by omega)
      generalize w1.heap.size = p1 at *
      refine CI.mono ?_
      rintro e w3 ⟨rfl, hbel3⟩
      have hb3 := hide (below_both hb2.out hbel3 hb2.out.size)
      have hN3 := hide (hN2.out.below hbel3)
      have hO3 := hide (hO2.out.below hbel3)
      have hX3 := hide (hX2.out.below hbel3)
      have R3 := R2.out.below hbel3 R2.out.lt
      have x0 := (R3.cell 0).trans (show _ = some (.slice X x.length cx) from rfl)
      clear CI hNE hbel3 R2 R3 hN2 hO2 hX2 hb2
      rcases idxF_cases all x 0 with ⟨h1, _⟩ | ⟨q, h1, h2⟩
      · rw [h1] at hsh2 ⊢
        have hsh3 : Hid (shareF (fun r => entF r 0) (ll.drop (j + 1)) (all ++ [x]) (of ++ [(m : Int)]) = shareF (fun r => entF r 0) ll [] []) := by
          show _ = _
          have := hsh2.out
          rw [if_pos (by omega), hal.out] at this
          exact this
        have R4 : Row (w3.alloc (.cells #[.slice X x.length cx] 61)) w3.heap.size 61 #[.slice X x.length cx] := Row.new _ _ _
        have hN4 := hN3.out.below (below_alloc w3 (.cells #[.slice X x.length cx] 61))
        have hO4 := hide (hO3.out.below (below_alloc w3 (.cells #[.slice X x.length cx] 61)))
        have hX4 := hX3.out.below (below_alloc w3 (.cells #[.slice X x.length cx] 61))
        have hb4 : Hid (Below w.heap.size w (w3.alloc (.cells #[.slice X x.length cx] 61))) := hb3.out.alloc hb3.out.size _
        have hbs := hb3.out.size
        have halo := hal.out
        clear hsh2 h1 hN3 hO3 hX3
        go_wp2_with (at_builtin; refine appN ti29 (by decide) w.heap.size hN4 (x := x) R4 hX4 (by rw [halo]; omega) (by omega) (by simp; omega) rfl _ _ rfl rfl rfl ?_)
        intro A5 c5 w5 hN5 hbel5 hrow5 hgr5
        obtain ⟨us, hus⟩ := hN4.owns
        have hO5 := hide (hO4.out.grown hus hgr5 (by decide))
        have hN5' := hide hN5
        have hb5 := hide (hb4.out.trans hbel5)
        clear hN5 hbel5 hrow5 hgr5 hus hN4 hO4 hb4 hb3 R4 x0
        have R6 : Row (w5.alloc (.cells #[.int .i64 (m : Int)] 3)) w5.heap.size 3 (f1 (m : Int)).toArray := Row.new _ _ _
        have hN6 := hide (hN5'.out.below (below_alloc w5 (.cells #[.int .i64 (m : Int)] 3)))
        have hO6 := hO5.out.below (below_alloc w5 (.cells #[.int .i64 (m : Int)] 3))
        have hb6 : Hid (Below w.heap.size w (w5.alloc (.cells #[.int .i64 (m : Int)] 3))) := hb5.out.alloc hb5.out.size _
        have hbs5 := hb5.out.size
        have holo := hol.out
        clear hN5' hO5 hb5 hX4
        go_wp2_with (at_builtin; refine appR ti30 (by omega) one1 w.heap.size hO6 (In.row rfl R6) (by rw [holo]; omega) (by omega) (by simp; omega) rfl _ _ rfl rfl 1 rfl ?_)
        intro A7 c7 w7 hO7 hbel7 hgr7
        have hN7 := hide (hN6.out.grown hO6 hgr7 (by decide) (by decide))
        have hO7' := hide hO7
        have hb7 := hide (hb6.out.trans hbel7)
        have hal2 : Hid ((all ++ [x]).length = m + 1) := by show _ = _; rw [List.length_append, halo]; rfl
        have hol2 : Hid ((of ++ [(m : Int)]).length = j + 1) := by show _ = _; rw [List.length_append, holo]; rfl
        clear hO7 hbel7 hgr7 hO6 hb6 hN6 R6
        go_wp2_with fail
        exact ⟨⟨j + 1, m + 1, c5, c7, A5, A7, all ++ [x], of ++ [(m : Int)], by omega, by go_num, rfl, rfl, by omega, hal2, hol2, hN7, hO7', hb7, hsh3⟩, by simp [intOf]; omega⟩
      · rw [Nat.zero_add] at h1
        rw [h1] at hsh2 ⊢
        have hsh3 : Hid (shareF (fun r => entF r 0) (ll.drop (j + 1)) all (of ++ [(q : Int)]) = shareF (fun r => entF r 0) ll [] []) := by
          show _ = _
          have := hsh2.out
          rw [if_neg (by omega)] at this
          exact this
        have hq0 : decide ((q : Int) < 0) = false := by simp
        have R6 : Row (w3.alloc (.cells #[.int .i64 (q : Int)] 3)) w3.heap.size 3 (f1 (q : Int)).toArray := Row.new _ _ _
        have hN6 := hide (hN3.out.below (below_alloc w3 (.cells #[.int .i64 (q : Int)] 3)))
        have hO6 := hO3.out.below (below_alloc w3 (.cells #[.int .i64 (q : Int)] 3))
        have hb6 : Hid (Below w.heap.size w (w3.alloc (.cells #[.int .i64 (q : Int)] 3))) := hb3.out.alloc hb3.out.size _
        have hbs5 := hb3.out.size
        have holo := hol.out
        clear hN3 hO3 hb3 hX3 hsh2 h1 h2 x0
        go_wp2_with (at_builtin; refine appR ti30 (by omega) one1 w.heap.size hO6 (In.row rfl R6) (by rw [holo]; omega) (by omega) (by simp; omega) rfl _ _ rfl rfl 1 rfl ?_)
        intro A7 c7 w7 hO7 hbel7 hgr7
        have hN7 := hide (hN6.out.grown hO6 hgr7 (by decide) (by decide))
        have hO7' := hide hO7
        have hb7 := hide (hb6.out.trans hbel7)
        have hol2 : Hid ((of ++ [(q : Int)]).length = j + 1) := by show _ = _; rw [List.length_append, holo]; rfl
        clear hO7 hbel7 hgr7 hO6 hb6 hN6 R6
        go_wp2_with fail
        exact ⟨⟨j + 1, m, cA, c7, A', A7, all, of ++ [(q : Int)], by omega, by go_num, rfl, rfl, by omega, hal, hol2, hN7, hO7', hb7, hsh3⟩, by simp [intOf]; omega⟩
    · have hlt' : decide ((j : Int) < (n : Int)) = false := by simp; omega
      have hres : Hid (shareF (fun r => entF r 0) ll [] [] = (all, of)) := by
        show _ = _
        have := hsh.out
        rw [List.drop_of_length_le (by rw [hlen.out]; omega), shareF] at this
        exact this.symm
      clear hsh
      go_wp2_with fail
      go_ret2
      unfold SharePost
      rw [hres.out]
      dsimp only
      rw [hal.out, hol.out]
      exact ⟨A', cA, B', cB, rfl, hN.out, hO.out, hb.out⟩

set_option maxHeartbeats 1000000 in
set_option maxRecDepth 100000 in
theorem share_30 (A : Option Addr) (n c : Nat) (ll : List (List Int)) (w : World) (h : Nest w 1 f1 A n ll) (hn : n ≤ 1000) (hrow : ∀ r ∈ ll, r.length ≤ 1000) :
    Calls Try.prog 30 #[.slice A n c, .func (.func 31) #[] #[]] w (SharePost w 62 59 2 f2 (shareF (fun r => edgF r 0) ll [] [])) := by
  have hmf : ∀ (fn : Fn) (first cap : Array Value) (w : World), (Instr.makeFunc fn first cap).run Try.prog w = .ok (.func fn first cap) w := fun _ _ _ _ => rfl
  have H := hide h
  have hlen := hide h.1
  have HR := hide hrow
  clear h hrow
  go_enter Try.func30, Try.ntmps30
  go_wp2_with fail
  go_loopw [4, 5, 12] (fun va vo i wr => ∃ (j m cA cB : Nat) (A' B' : Option Addr) (all : List (List (Int × Int))) (of : List Int), j ≤ n ∧ i = .int .i64 j ∧ va = .slice A' m cA ∧ vo = .slice B' j cB ∧ m ≤ j ∧ Hid (all.length = m) ∧ Hid (of.length = j) ∧
    Hid (OwnN wr w.heap.size 62 59 2 f2 (.slice A' m cA) all) ∧ Hid (OwnR wr w.heap.size 3 1 f1 (.slice B' j cB) of) ∧ Hid (Below w.heap.size w wr) ∧ Hid (shareF (fun r => edgF r 0) (ll.drop j) all of = shareF (fun r => edgF r 0) ll [] [])) (fun _ _ i _ => n - (intOf i).toNat)
  case atStart => exact ⟨0, 0, 0, 0, none, none, [], [], by omega, rfl, rfl, rfl, by omega, rfl, rfl, OwnN.nil _ _ _ _ _ _, OwnR.nil _ _ _ _ _, Below.refl _ _, rfl⟩
  case round =>
    obtain ⟨j, m, cA, cB, A', B', all, of, hj, rfl, rfl, rfl, hmj, hal, hol, hN, hO, hb, hsh⟩ := hrel
    by_cases hlt : j < n
    · have hlt' : decide ((j : Int) < (n : Int)) = true := by simp; omega
      have hltp : (j : Int) < (n : Int) := by omega
      obtain ⟨b, o, row, A1, c1, rfl, hr, z1, z2, z3, z4⟩ := (H.out.below hb.out).at_ hlt
      have hr1 := HR.out row (List.mem_of_getElem? hr)
      have CP := edges_any A1 row.length c1 row wr z2 (by omega)
      unfold PackPost at CP
      have hsh2 : Hid ((if idxF all (edgF row 0) 0 < 0 then shareF (fun r => edgF r 0) (ll.drop (j + 1)) (all ++ [edgF row 0]) (of ++ [(all.length : Int)]) else shareF (fun r => edgF r 0) (ll.drop (j + 1)) all (of ++ [idxF all (edgF row 0) 0])) = shareF (fun r => edgF r 0) ll [] []) := by
        show _ = _
        have h1 := hsh.out
        have hjl := (List.getElem?_eq_some_iff.1 hr).1
        rw [List.drop_eq_getElem_cons hjl, show ll[j] = row by rw [List.getElem?_eq_getElem hjl] at hr; exact Option.some.inj hr, shareF] at h1
        exact h1
      have hpl := edgF_len row 0
      obtain ⟨x, hxe⟩ : ∃ x, x = edgF row 0 := ⟨_, rfl⟩
      rw [← hxe] at CP hsh2 hpl
      clear hr hxe hsh z2
      go_wp2_with fail
      refine CP.mono ?_
      rintro e w1 ⟨v1, rfl, hO1, hbel1⟩
      clear CP
      obtain ⟨X, cx, rfl, hX1⟩ := hO1.inT
      have hx1000 : x.length ≤ 1000 := by omega
      have b2 : Below wr.heap.size wr (w1.alloc (.cells #[.slice X x.length cx] 62)) := hbel1.alloc hbel1.size _
      have hb2 := hide (below_both hb.out b2 hb.out.size)
      have hN2 := hide (hN.out.below b2)
      have hO2 := hide (hO.out.below b2)
      have hX2 := hide (hX1.below (below_alloc w1 (.cells #[.slice X x.length cx] 62)))
      have R2 : Hid (Row (w1.alloc (.cells #[.slice X x.length cx] 62)) w1.heap.size 62 #[.slice X x.length cx]) := Row.new _ _ _
      clear hO1 hbel1 hX1 b2 hN hO hb
      go_wp2_with fail
      generalize w1.alloc (.cells #[.slice X x.length cx] 62) = w2 at *
      have hNE : Nest w2 2 f2 A' m all := by have := hN2.out.nest; rwa [hal.out] at this
      have CI := idx_60 w1.heap.size A' X m cA cx all x w2 hNE (by omega) R2.out hX2.out.1 (by omega)
      generalize w1.heap.size = p1 at *
      refine CI.mono ?_
      rintro e w3 ⟨rfl, hbel3⟩
      have hb3 := hide (below_both hb2.out hbel3 hb2.out.size)
      have hN3 := hide (hN2.out.below hbel3)
      have hO3 := hide (hO2.out.below hbel3)
      have hX3 := hide (hX2.out.below hbel3)
      have R3 := R2.out.below hbel3 R2.out.lt
      have x0 := (R3.cell 0).trans (show _ = some (.slice X x.length cx) from rfl)
      clear CI hNE hbel3 R2 R3 hN2 hO2 hX2 hb2
      rcases idxF_cases all x 0 with ⟨h1, _⟩ | ⟨q, h1, h2⟩
      · rw [h1] at hsh2 ⊢
        have hsh3 : Hid (shareF (fun r => edgF r 0) (ll.drop (j + 1)) (all ++ [x]) (of ++ [(m : Int)]) = shareF (fun r => edgF r 0) ll [] []) := by
          show _ = _
          have := hsh2.out
          rw [if_pos (by omega), hal.out] at this
          exact this
        have R4 : Row (w3.alloc (.cells #[.slice X x.length cx] 62)) w3.heap.size 62 #[.slice X x.length cx] := Row.new _ _ _
        have hN4 := hN3.out.below (below_alloc w3 (.cells #[.slice X x.length cx] 62))
        have hO4 := hide (hO3.out.below (below_alloc w3 (.cells #[.slice X x.length cx] 62)))
        have hX4 := hX3.out.below (below_alloc w3 (.cells #[.slice X x.length cx] 62))
        have hb4 : Hid (Below w.heap.size w (w3.alloc (.cells #[.slice X x.length cx] 62))) := hb3.out.alloc hb3.out.size _
        have hbs := hb3.out.size
        have halo := hal.out
        clear hsh2 h1 hN3 hO3 hX3
        go_wp2_with (at_builtin; refine appN ti31 (by decide) w.heap.size hN4 (x := x) R4 hX4 (by rw [halo]; omega) (by omega) (by simp; omega) rfl _ _ rfl rfl rfl ?_)
        intro A5 c5 w5 hN5 hbel5 hrow5 hgr5
        obtain ⟨us, hus⟩ := hN4.owns
        have hO5 := hide (hO4.out.grown hus hgr5 (by decide))
        have hN5' := hide hN5
        have hb5 := hide (hb4.out.trans hbel5)
        clear hN5 hbel5 hrow5 hgr5 hus hN4 hO4 hb4 hb3 R4 x0
        have R6 : Row (w5.alloc (.cells #[.int .i64 (m : Int)] 3)) w5.heap.size 3 (f1 (m : Int)).toArray := Row.new _ _ _
        have hN6 := hide (hN5'.out.below (below_alloc w5 (.cells #[.int .i64 (m : Int)] 3)))
        have hO6 := hO5.out.below (below_alloc w5 (.cells #[.int .i64 (m : Int)] 3))
        have hb6 : Hid (Below w.heap.size w (w5.alloc (.cells #[.int .i64 (m : Int)] 3))) := hb5.out.alloc hb5.out.size _
        have hbs5 := hb5.out.size
        have holo := hol.out
        clear hN5' hO5 hb5 hX4
        go_wp2_with (at_builtin; refine appR ti30 (by omega) one1 w.heap.size hO6 (In.row rfl R6) (by rw [holo]; omega) (by omega) (by simp; omega) rfl _ _ rfl rfl 1 rfl ?_)
        intro A7 c7 w7 hO7 hbel7 hgr7
        have hN7 := hide (hN6.out.grown hO6 hgr7 (by decide) (by decide))
        have hO7' := hide hO7
        have hb7 := hide (hb6.out.trans hbel7)
        have hal2 : Hid ((all ++ [x]).length = m + 1) := by show _ = _; rw [List.length_append, halo]; rfl
        have hol2 : Hid ((of ++ [(m : Int)]).length = j + 1) := by show _ = _; rw [List.length_append, holo]; rfl
        clear hO7 hbel7 hgr7 hO6 hb6 hN6 R6
        go_wp2_with fail
        exact ⟨⟨j + 1, m + 1, c5, c7, A5, A7, all ++ [x], of ++ [(m : Int)], by omega, by go_num, rfl, rfl, by omega, hal2, hol2, hN7, hO7', hb7, hsh3⟩, by simp [intOf]; omega⟩
      · rw [Nat.zero_add] at h1
        rw [h1] at hsh2 ⊢
        have hsh3 : Hid (shareF (fun r => edgF r 0) (ll.drop (j + 1)) all (of ++ [(q : Int)]) = shareF (fun r => edgF r 0) ll [] []) := by
          show _ = _
          have := hsh2.out
          rw [if_neg (by omega)] at this
          exact this
        have hq0 : decide ((q : Int) < 0) = false := by simp
        have R6 : Row (w3.alloc (.cells #[.int .i64 (q : Int)] 3)) w3.heap.size 3 (f1 (q : Int)).toArray := Row.new _ _ _
        have hN6 := hide (hN3.out.below (below_alloc w3 (.cells #[.int .i64 (q : Int)] 3)))
        have hO6 := hO3.out.below (below_alloc w3 (.cells #[.int .i64 (q : Int)] 3))
        have hb6 : Hid (Below w.heap.size w (w3.alloc (.cells #[.int .i64 (q : Int)] 3))) := hb3.out.alloc hb3.out.size _
        have hbs5 := hb3.out.size
        have holo := hol.out
        clear hN3 hO3 hb3 hX3 hsh2 h1 h2 x0
        go_wp2_with (at_builtin; refine appR ti30 (by omega) one1 w.heap.size hO6 (In.row rfl R6) (by rw [holo]; omega) (by omega) (by simp; omega) rfl _ _ rfl rfl 1 rfl ?_)
        intro A7 c7 w7 hO7 hbel7 hgr7
        have hN7 := hide (hN6.out.grown hO6 hgr7 (by decide) (by decide))
        have hO7' := hide hO7
        have hb7 := hide (hb6.out.trans hbel7)
        have hol2 : Hid ((of ++ [(q : Int)]).length = j + 1) := by show _ = _; rw [List.length_append, holo]; rfl
        clear hO7 hbel7 hgr7 hO6 hb6 hN6 R6
        go_wp2_with fail
        exact ⟨⟨j + 1, m, cA, c7, A', A7, all, of ++ [(q : Int)], by omega, by go_num, rfl, rfl, by omega, hal, hol2, hN7, hO7', hb7, hsh3⟩, by simp [intOf]; omega⟩
    · have hlt' : decide ((j : Int) < (n : Int)) = false := by simp; omega
      have hres : Hid (shareF (fun r => edgF r 0) ll [] [] = (all, of)) := by
        show _ = _
        have := hsh.out
        rw [List.drop_of_length_le (by rw [hlen.out]; omega), shareF] at this
        exact this.symm
      clear hsh
      go_wp2_with fail
      go_ret2
      unfold SharePost
      rw [hres.out]
      dsimp only
      rw [hal.out, hol.out]
      exact ⟨A', cA, B', cB, rfl, hN.out, hO.out, hb.out⟩
end Go.Proofs.Ytfldbkioepcghaa
