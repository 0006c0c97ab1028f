/- Lists of numbers: words; walks over code: lists put. -/
import Derived.Test.YtbfefjlilmoigaaT11
namespace Go.Proofs.Ytbfefjlilmoigaa
open Go.RowKit
set_option linter.unusedVariables false

/-! Slices of numbers: 50 is []int, 3 int. -/
def ints (l : List Int) : List Value := l.map (Value.int .i64)
def Ints (w : World) (A : Option Addr) (n : Nat) (l : List Int) : Prop := Elems w A n (ints l)
def OwnI (w : World) (base : Nat) (v : Value) (l : List Int) : Prop := w.ownsRow base 3 1 v l.length (ints l)

theorem info3 : (Try.prog.info? 3).map (fun i => (i.zero, i.size, i.bytes)) = some (some (.int .i64 0), 1, 8) := by kernel_rfl

theorem ints_one (l : List Int) : ∀ u ∈ ints l, u.oneCell' = true := by
  intro u hu
  obtain ⟨x, _, rfl⟩ := List.mem_map.1 hu
  rfl
theorem ints_append (a b : List Int) : ints (a ++ b) = ints a ++ ints b := List.map_append
theorem ints_length (a : List Int) : (ints a).length = a.length := List.length_map _

theorem Ints.len {w : World} {A : Option Addr} {n : Nat} {l : List Int} (h : Ints w A n l) : l.length = n := by have := h.1; rwa [ints_length] at this
theorem Ints.below {w w' : World} {A : Option Addr} {n : Nat} {l : List Int} (h : Ints w A n l) (hb : Below w.heap.size w w') : Ints w' A n l := Elems.below h hb
theorem Ints.at_ {w : World} {A : Option Addr} {n : Nat} {l : List Int} (h : Ints w A n l) {k : Nat} (hk : k < n) :
    ∃ b o x, A = some ⟨b, o, none⟩ ∧ l[k]? = some x ∧ w.cell? ⟨b, o + k, none⟩ = some (.int .i64 x) := by
  obtain ⟨b, o, u, e, hu, hc⟩ := Elems.at_ h hk
  simp only [ints, List.getElem?_map, Option.map_eq_some_iff] at hu
  obtain ⟨x, hx, rfl⟩ := hu
  exact ⟨b, o, x, e, hx, hc⟩

section
variable {w w' : World} {base base' : Nat} {v : Value} {l : List Int}
theorem OwnI.below (h : OwnI w base v l) (hb : Below w.heap.size w w') : OwnI w' base v l := own_below h hb
theorem OwnI.mono (h : OwnI w base v l) (hb : base' ≤ base) : OwnI w base' v l := own_mono h hb
theorem OwnI.form (h : OwnI w base v l) : ∃ A c, v = .slice A l.length c ∧ Ints w A l.length l ∧ l.length ≤ c ∧ c ≤ maxLen := own_form h
theorem OwnI.nil_ (w : World) (base : Nat) : OwnI w base (.slice none 0 0) [] := World.ownsRow_nil w base 3 1
end

theorem int_one (w : World) (z : Int) : Ints (w.alloc (.cells #[.int .i64 z] 3)) (some ⟨w.heap.size, 0, none⟩) 1 [z] := Elems.new w [.int .i64 z] 3 1 rfl

theorem appI {w : World} {ops : Array Oper} {rest : List Oper} {o : Oper} {a : Act} {Q : Exit → Act → World → Prop} (base : Nat) {v : Value} {l : List Int} (hown : OwnI w base v l) {A : Option Addr} {m : Nat} {news : List Int} (hr : Ints w A m news)
    (hlen : l.length + m ≤ 1000000000000) (hbase : base ≤ w.heap.size) (hgd : o.guard = none) (s x : Operand)
    (ho : o.op = .call { callee := .builtin .append, args := #[s, x], argTypes := #[50, 50] }) (hs : a.eval s = v) (c : Nat) (hx : a.eval x = .slice A m c)
    (h : ∀ v' w', OwnI w' base v' (l ++ news) → Below base w w' → wpList Try.prog ops Q rest (a.put o.dst v') w') : wpList Try.prog ops Q (o :: rest) a w := by
  obtain ⟨i0, hi, hz0, hz1, hz2⟩ := info_parts info3
  have hm : news.length = m := hr.len
  refine wpList_app w hgd s x 50 ho base 3 i0 (.int .i64 0) 1 8 Try.underlying50 hi hz0 hz1 hz2 rfl (by decide) v l.length (ints l) hs hown A m c (ints news) hx (by rw [Nat.mul_one]; exact hr) (ints_one _)
    (by unfold maxLen; omega) (by omega) hbase fun v' w' h1 h2 => h v' w' ?_ h2
  unfold OwnI
  rw [List.length_append, ints_append, hm]
  exact h1

/-- As 'form', the length behind a letter. -/
theorem Own.form2 {w : World} {base : Nat} {v : Value} {bs : List UInt8} (h : Own w base v bs) : ∃ A L c, v = .slice A L c ∧ Hid (L = bs.length) ∧ Bytes w A L bs ∧ L ≤ c ∧ c ≤ 9223372036854775807 := by
  obtain ⟨A, c, h1, h2, h3, h4⟩ := Own.form h
  unfold maxLen at h4
  exact ⟨A, _, c, h1, rfl, h2, h3, by omega⟩
theorem OwnI.form2 {w : World} {base : Nat} {v : Value} {l : List Int} (h : OwnI w base v l) : ∃ A L c, v = .slice A L c ∧ Hid (L = l.length) ∧ Ints w A L l ∧ L ≤ c ∧ c ≤ 9223372036854775807 := by
  obtain ⟨A, c, h1, h2, h3, h4⟩ := OwnI.form h
  unfold maxLen at h4
  exact ⟨A, _, c, h1, rfl, h2, h3, by omega⟩

/-! A list's bytes. -/
def okI (x : Int) : Bool := decide (0 ≤ x) && decide (x < 2147483648)
def okL (l : List Int) : Bool := l.all okI
def itemsB (l : List Int) : List UInt8 := l.flatMap fun x => Code.putN x.toNat
def listB (l : List Int) : List UInt8 := Code.putN l.length ++ itemsB l

theorem okL_false {l : List Int} {k : Nat} {x : Int} (hx : l[k]? = some x) (h : okI x = false) : okL l = false := by
  unfold okL
  rw [List.all_eq_false]
  exact ⟨x, List.mem_of_getElem? hx, by simp [h]⟩
theorem okL_take {l : List Int} {k : Nat} {x : Int} (hx : l[k]? = some x) (h : okI x = true) (ht : okL (l.take k) = true) : okL (l.take (k + 1)) = true := by
  unfold okL at *
  rw [List.take_add_one, hx, List.all_append, ht]
  simp [h]
theorem itemsB_take {l : List Int} {k : Nat} {x : Int} (hx : l[k]? = some x) : itemsB (l.take (k + 1)) = itemsB (l.take k) ++ Code.putN x.toNat := by
  unfold itemsB
  rw [List.take_add_one, hx, List.flatMap_append]
  simp
theorem putN_len (n : Nat) : (Code.putN n).length ≤ 5 := (Code.putF_len 4 n).2
theorem itemsB_len (l : List Int) : (itemsB l).length ≤ 5 * l.length := by
  unfold itemsB
  induction l with
  | nil => simp
  | cons x l ih => have := putN_len x.toNat; simp only [List.flatMap_cons, List.length_append, List.length_cons]; omega
theorem listB_len (l : List Int) : (listB l).length ≤ 5 * l.length + 5 := by
  unfold listB
  have := putN_len l.length
  have := itemsB_len l
  rw [List.length_append]
  omega

def PutPost (w : World) (bs : List UInt8) (l : List Int) (e : Ending) (w' : World) : Prop :=
  ∃ v, e = .returned (.tuple #[v, .int .i64 (if okL l then 0 else 1)]) ∧ Own w' w.heap.size v (if okL l then bs ++ listB l else []) ∧ Below w.heap.size w w'

def PutLState (wr : World) (base : Nat) (v : Value) (bs : List UInt8) (l : List Int) (k : Nat) : Prop :=
  Own wr base v (bs ++ (Code.putN l.length ++ itemsB (l.take k))) ∧ okL (l.take k) = true

set_option maxRecDepth 100000 in
theorem putl_any (A B : Option Addr) (n c m d : Nat) (bs : List UInt8) (l : List Int) (w : World) (hb : Bytes w A n bs) (hi : Ints w B m l) (hn : n ≤ 1000000) (hm : m ≤ 1000000) (hx : ∀ x ∈ l, -9223372036854775808 ≤ x ∧ x ≤ 9223372036854775807) :
    Calls Try.prog 35 #[.slice A n c, .slice B m d] w (PutPost w bs l) := by
  have H := hide hb
  have hl := hide hb.len
  have HI := hide hi
  have hil := hide hi.len
  have HX := hide hx
  clear hb hi hx
  go_enter Try.func35, Try.ntmps35
  go_wp2_with fail
  refine (put_any A n c bs m _ H.out (by omega) (by omega)).mono ?_
  rintro e w1 ⟨v1, rfl, hown1, hbel1⟩
  go_wp2_with fail
  go_loopw [6, 16] (fun v i wr => ∃ k : Nat, k ≤ m ∧ i = .int .i64 k ∧ Hid (PutLState wr w.heap.size v bs l k) ∧ Hid (Below w.heap.size w wr)) (fun _ i _ => m - (intOf i).toNat)
  case atStart => exact ⟨0, by omega, rfl, ⟨by simpa [itemsB, hil.out] using hown1, rfl⟩, hbel1⟩
  case round =>
    obtain ⟨k, hk, rfl, hst, hbel⟩ := hrel
    by_cases hlt : k < m
    · obtain ⟨b, o, x, hB, hx, hc⟩ := (HI.out.below hbel.out).at_ hlt
      subst hB
      have hxb := HX.out x (List.mem_of_getElem? hx)
      have Hx := hide hx
      clear hx
      by_cases hx0 : x < 0
      · have hf : Hid (okL l = false) := okL_false Hx.out (by simp [okI]; omega)
        have t1 : decide (x < 0) = true := by simpa using hx0
        go_wp2
        go_ret2
        refine ⟨.slice none 0 0, ?_, ?_, hbel.out⟩
        · rw [hf.out]; rfl
        · rw [hf.out]; exact Own.nil_ _ _
      · have t1 : decide (x < 0) = false := by simp; omega
        by_cases hx1 : 2147483648 ≤ x
        · have hf : Hid (okL l = false) := okL_false Hx.out (by simp [okI]; omega)
          have t2 : decide (2147483648 ≤ x) = true := by simpa using hx1
          go_wp2
          go_ret2
          refine ⟨.slice none 0 0, ?_, ?_, hbel.out⟩
          · rw [hf.out]; rfl
          · rw [hf.out]; exact Own.nil_ _ _
        · have t2 : decide (2147483648 ≤ x) = false := by simp; omega
          obtain ⟨z, rfl⟩ := Int.eq_ofNat_of_zero_le (by omega : 0 ≤ x)
          have hz : z < 2147483648 := by omega
          obtain ⟨A1, L, c1, hv1, hL, hB1, hc1, hm1⟩ := hst.out.1.form2
          subst hv1
          have hlen : L ≤ 100000000 := by
            rw [hL.out]
            have h1 := itemsB_len (l.take k)
            have h2 := putN_len l.length
            have h3 : (l.take k).length ≤ k := List.length_take_le _ _
            have := hl.out
            simp only [List.length_append]
            omega
          have C := put_any A1 L c1 _ z wr hB1 hlen (by omega)
          have hnext : ∀ w2 v2, Own w2 wr.heap.size v2 ((bs ++ (Code.putN l.length ++ itemsB (l.take k))) ++ Code.putN z) → PutLState w2 w.heap.size v2 bs l (k + 1) := fun w2 v2 h => by
            refine ⟨?_, okL_take Hx.out (by simp [okI]; omega) hst.out.2⟩
            rw [itemsB_take Hx.out]
            have := h.mono hbel.out.size
            simpa using this
          have CC := hide C
          have hN := hide hnext
          clear C hnext hB1 hc1 hm1 hlen
          clear hx0 hx1 hxb
          go_wp2_with fail
          refine CC.out.mono ?_
          rintro e w2 ⟨v2, rfl, hown2, hbel2⟩
          have hst2 : Hid (PutLState w2 w.heap.size v2 bs l (k + 1)) := hN.out w2 v2 hown2
          have hbb : Hid (Below w.heap.size w w2) := below_both hbel.out hbel2 hbel.out.size
          clear hown2 hbel2
          go_wp2
          go_roundw
          case rel => exact ⟨k + 1, by omega, by go_num, hst2, hbb⟩
          case measure => simp [intOf]; omega
    · have hkm : k = m := by omega
      subst hkm
      have ht : l.take k = l := List.take_of_length_le (by rw [hil.out]; exact Nat.le_refl _)
      obtain ⟨ho, hk1⟩ := hst.out
      rw [ht] at ho hk1
      have ho' := hide ho
      have hf := hide hk1
      clear ho hk1 ht
      go_wp2
      go_ret2
      refine ⟨u6, ?_, ?_, hbel.out⟩
      · rw [hf.out]; rfl
      · rw [hf.out]; exact ho'.out
set_option maxRecDepth 100000 in
theorem rputl_any (A B : Option Addr) (n c m d : Nat) (bs : List UInt8) (l : List Int) (w : World) (hb : Bytes w A n bs) (hi : Ints w B m l) (hn : n ≤ 1000000) (hm : m ≤ 1000000) (hx : ∀ x ∈ l, -9223372036854775808 ≤ x ∧ x ≤ 9223372036854775807) :
    Calls Try.prog 36 #[.slice A n c, .slice B m d] w (PutPost w bs l) := by
  have H := hide hb
  have hl := hide hb.len
  have HI := hide hi
  have hil := hide hi.len
  have HX := hide hx
  clear hb hi hx
  go_enter Try.func36, Try.ntmps36
  go_wp2_with fail
  refine (rput_any A n c bs m _ H.out (by omega) (by omega)).mono ?_
  rintro e w1 ⟨v1, rfl, hown1, hbel1⟩
  go_wp2_with fail
  go_loopw [6, 7] (fun v i wr => ∃ k : Nat, k ≤ m ∧ i = .int .i64 k ∧ Hid (PutLState wr w.heap.size v bs l k) ∧ Hid (Below w.heap.size w wr)) (fun _ i _ => m - (intOf i).toNat)
  case atStart => exact ⟨0, by omega, rfl, ⟨by simpa [itemsB, hil.out] using hown1, rfl⟩, hbel1⟩
  case round =>
    obtain ⟨k, hk, rfl, hst, hbel⟩ := hrel
    by_cases hlt : k < m
    · obtain ⟨b, o, x, hB, hx, hc⟩ := (HI.out.below hbel.out).at_ hlt
      subst hB
      have hxb := HX.out x (List.mem_of_getElem? hx)
      have Hx := hide hx
      clear hx
      by_cases hx0 : x < 0
      · have hf : Hid (okL l = false) := okL_false Hx.out (by simp [okI]; omega)
        have t1 : decide (x < 0) = true := by simpa using hx0
        go_wp2
        go_ret2
        refine ⟨.slice none 0 0, ?_, ?_, hbel.out⟩
        · rw [hf.out]; rfl
        · rw [hf.out]; exact Own.nil_ _ _
      · have t1 : decide (x < 0) = false := by simp; omega
        by_cases hx1 : 2147483648 ≤ x
        · have hf : Hid (okL l = false) := okL_false Hx.out (by simp [okI]; omega)
          have t2 : decide (2147483648 ≤ x) = true := by simpa using hx1
          go_wp2
          go_ret2
          refine ⟨.slice none 0 0, ?_, ?_, hbel.out⟩
          · rw [hf.out]; rfl
          · rw [hf.out]; exact Own.nil_ _ _
        · have t2 : decide (2147483648 ≤ x) = false := by simp; omega
          obtain ⟨z, rfl⟩ := Int.eq_ofNat_of_zero_le (by omega : 0 ≤ x)
          have hz : z < 2147483648 := by omega
          obtain ⟨A1, L, c1, hv1, hL, hB1, hc1, hm1⟩ := hst.out.1.form2
          subst hv1
          have hlen : L ≤ 100000000 := by
            rw [hL.out]
            have h1 := itemsB_len (l.take k)
            have h2 := putN_len l.length
            have h3 : (l.take k).length ≤ k := List.length_take_le _ _
            have := hl.out
            simp only [List.length_append]
            omega
          have C := rput_any A1 L c1 _ z wr hB1 hlen (by omega)
          have hnext : ∀ w2 v2, Own w2 wr.heap.size v2 ((bs ++ (Code.putN l.length ++ itemsB (l.take k))) ++ Code.putN z) → PutLState w2 w.heap.size v2 bs l (k + 1) := fun w2 v2 h => by
            refine ⟨?_, okL_take Hx.out (by simp [okI]; omega) hst.out.2⟩
            rw [itemsB_take Hx.out]
            have := h.mono hbel.out.size
            simpa using this
          have CC := hide C
          have hN := hide hnext
          clear C hnext hB1 hc1 hm1 hlen
          clear hx0 hx1 hxb
          go_wp2_with fail
          refine CC.out.mono ?_
          rintro e w2 ⟨v2, rfl, hown2, hbel2⟩
          have hst2 : Hid (PutLState w2 w.heap.size v2 bs l (k + 1)) := hN.out w2 v2 hown2
          have hbb : Hid (Below w.heap.size w w2) := below_both hbel.out hbel2 hbel.out.size
          clear hown2 hbel2
          go_wp2
          go_roundw
          case rel => exact ⟨k + 1, by omega, by go_num, hst2, hbb⟩
          case measure => simp [intOf]; omega
    · have hkm : k = m := by omega
      subst hkm
      have ht : l.take k = l := List.take_of_length_le (by rw [hil.out]; exact Nat.le_refl _)
      obtain ⟨ho, hk1⟩ := hst.out
      rw [ht] at ho hk1
      have ho' := hide ho
      have hf := hide hk1
      clear ho hk1 ht
      go_wp2
      go_ret2
      refine ⟨u6, ?_, ?_, hbel.out⟩
      · rw [hf.out]; rfl
      · rw [hf.out]; exact ho'.out
end Go.Proofs.Ytbfefjlilmoigaa
