/- What is read is what was written, and what was written is what is read: corpora as plain data. -/
import Derived.Test.YtbfefjlilmoigaaE2
import Derived.Test.YtbfefjlilmoigaaC6
import Derived.Test.YtbfefjlilmoigaaL7
namespace Go.Proofs.Ytbfefjlilmoigaa
open Go.RowKit
set_option linter.unusedVariables false

theorem numR_put (pre tail : List UInt8) (m : Nat) (p : Int → Bool) (why : Nat) (hm : m < 4294967296) (hp : p (m : Int) = true) :
    numR (pre ++ (Code.putN m ++ tail)) (pre.length : Int) p why = .ok (m, ((pre.length + (Code.putN m).length : Nat) : Int)) := by
  unfold numR
  rw [getN_put pre tail m hm]
  simp [hp]

theorem getList_at (pre tail : List UInt8) (l : List Int) (most : Nat) (h : okL l = true) (hl : l.length ≤ most) (hm : most < 4294967296) :
    getList (pre ++ (listB l ++ tail)) (pre.length : Int) (most : Int) = (l, ((pre.length + (listB l).length : Nat) : Int), 0) := by
  have hg := getN_put pre (itemsB l ++ tail) l.length (by omega)
  have hi := getItems_put l (pre ++ Code.putN l.length) tail h
  rw [List.append_assoc, List.length_append] at hi
  unfold getList listB
  rw [List.append_assoc, hg]
  simp only [ne_eq, not_true_eq_false, if_false]
  rw [if_neg (by omega), hi, List.length_append, Nat.add_assoc]

theorem okC_parts {x : Cas} (h : okC x = true) : ∃ k q : Nat, x.kind = k ∧ x.note = q ∧ 1 ≤ k ∧ k ≤ 4 ∧ q < 2147483648 ∧ x.word.length ≤ 300 ∧ okL x.word = true := by
  simp only [okC, okK, okI, Bool.and_eq_true, decide_eq_true_eq] at h
  obtain ⟨⟨h1, h2⟩, ⟨h3, h4⟩, h5, h6⟩ := h
  exact ⟨x.kind.toNat, x.note.toNat, by omega, by omega, by omega, by omega, by omega, h5, h6⟩

theorem oneR_put (pre tail : List UInt8) (x : Cas) (h : okC x = true) :
    oneR (pre ++ (casB x ++ tail)) (pre.length : Int) = .ok (x, ((pre.length + (casB x).length : Nat) : Int)) := by
  obtain ⟨k, q, e1, e2, h1, h2, h3, h4, h5⟩ := okC_parts h
  obtain ⟨xk, xq, xw⟩ := x
  dsimp only at e1 e2 h4 h5
  subst e1 e2
  have n1 := numR_put pre (Code.putN q ++ (listB xw ++ tail)) k okK 3 (by omega) (by simp [okK]; omega)
  have n2 := numR_put (pre ++ Code.putN k) (listB xw ++ tail) q okI 3 (by omega) (by simp [okI]; omega)
  have n3 := getList_at (pre ++ Code.putN k ++ Code.putN q) tail xw 300 h5 h4 (by omega)
  simp only [List.append_assoc, List.length_append] at n1 n2 n3
  rw [show ((300 : Nat) : Int) = 300 from rfl] at n3
  unfold oneR casB
  simp only [Int.toNat_natCast, List.append_assoc, List.length_append]
  rw [n1]
  dsimp only
  rw [n2]
  dsimp only
  rw [show ((pre.length + (Code.putN k).length + (Code.putN q).length : Nat) : Int) = ((pre.length + ((Code.putN k).length + (Code.putN q).length) : Nat) : Int) by rw [Nat.add_assoc], n3]
  simp [Nat.add_assoc]

theorem casesR_put : ∀ (l : List Cas) (pre tail : List UInt8), l.all okC = true →
    casesR (pre ++ (l.flatMap casB ++ tail)) l.length (pre.length : Int) = .ok (l, ((pre.length + (l.flatMap casB).length : Nat) : Int))
  | [], pre, tail, _ => by simp [casesR]
  | x :: l, pre, tail, h => by
    rw [List.all_cons, Bool.and_eq_true] at h
    have h1 := oneR_put pre (l.flatMap casB ++ tail) x h.1
    have ih := casesR_put l (pre ++ casB x) tail h.2
    rw [List.append_assoc, List.length_append] at ih
    rw [List.flatMap_cons, List.append_assoc, List.length_cons, casesR, h1]
    dsimp only
    rw [ih]
    simp [Nat.add_assoc]

theorem le4_leb (g : Nat) (h : g < 4294967296) (tail : List UInt8) : le4 (leb g ++ tail) = g := by
  simp [le4, leb]
  omega

theorem allR_put (g : Nat) (l : List Cas) (hg : g < 4294967296) (h : rightC l = true) : allR (corB g l) = .ok (g, l) := by
  unfold rightC at h
  simp only [Bool.and_eq_true, decide_eq_true_eq] at h
  have n1 := numR_put (headB g) (l.flatMap casB ++ []) l.length okM 5 (by omega) (by simp [okM]; omega)
  have n2 := casesR_put l (headB g ++ Code.putN l.length) [] h.2
  rw [List.append_assoc, List.length_append] at n2
  rw [List.append_nil] at n1 n2
  have hd : (corB g l).drop 4 = leb g ++ (Code.putN l.length ++ l.flatMap casB) := rfl
  have ht : (corB g l).take 4 = magicB := rfl
  have hln : (corB g l).length = 8 + ((Code.putN l.length).length + (l.flatMap casB).length) := by
    unfold corB
    rw [List.length_append, List.length_append, headB_len]
  unfold allR
  rw [if_pos ⟨by omega, ht⟩, hd, le4_leb g hg]
  rw [headB_len] at n1 n2
  rw [show (8 : Int) = ((8 : Nat) : Int) from rfl]
  unfold corB at hln ⊢
  rw [n1]
  dsimp only
  rw [n2]
  dsimp only
  rw [if_pos (by rw [hln]; omega)]

theorem frameB_len (x : List UInt8) : (frameB x).length = x.length + 4 := by simp [frameB, leb]
theorem openB_frame (x : List UInt8) : openB (frameB x) = some x := by
  have ht : (frameB x).take ((frameB x).length - 4) = x := by rw [frameB_len]; unfold frameB; simp
  unfold openB
  rw [if_neg (by rw [frameB_len]; omega), ht]
  simp

theorem decB_enc (g : Nat) (l : List Cas) (hg : g < 4294967296) (h : rightC l = true) (hl : (frameB (corB g l)).length ≤ 60000) : decB (frameB (corB g l)) = (g, l, 0) := by
  unfold decB
  rw [if_neg (by omega), openB_frame]
  dsimp only
  rw [allR_put g l hg h]

/-! The other way. -/
theorem numR_just {bs : List UInt8} {at_ : Nat} {p : Int → Bool} {why x : Nat} {nx : Int} (h : numR bs at_ p why = .ok (x, nx)) :
    ∃ k : Nat, nx = k ∧ at_ < k ∧ k ≤ bs.length ∧ Code.putN x = (bs.drop at_).take (k - at_) ∧ p (x : Int) = true := by
  obtain ⟨h1, h2⟩ := numR_ok h
  obtain ⟨b1, b2, b3, b4⟩ := getN_bound _ _ _ _ h1
  obtain ⟨k, rfl⟩ := Int.eq_ofNat_of_zero_le (show (0 : Int) ≤ nx by omega)
  have hj := getN_just bs at_ x _ h1
  rw [Int.toNat_natCast] at hj
  exact ⟨k, rfl, by omega, by omega, hj, h2⟩

theorem numR_err {bs : List UInt8} {at_ : Int} {p : Int → Bool} {why z : Nat} (hw : why ≠ 0) (h : numR bs at_ p why = .error z) : z ≠ 0 := by
  unfold numR at h
  split at h
  · injection h with h; omega
  · split at h
    · cases h
    · injection h with h; omega

theorem getList_atj {bs : List UInt8} {at_ : Nat} {m : List Int} {most : Nat} {to : Int} (h : getList bs at_ (most : Int) = (m, to, 0)) :
    ∃ k : Nat, to = k ∧ at_ < k ∧ k ≤ bs.length ∧ m.length ≤ most ∧ okL m = true ∧ listB m = (bs.drop at_).take (k - at_) := by
  unfold getList at h
  generalize hg : Code.getN bs (at_ : Int) = r at h
  obtain ⟨x, nx, e⟩ := r
  dsimp only at h
  by_cases he : e = 0
  · subst he
    simp only [ne_eq, not_true_eq_false, if_false] at h
    by_cases hx : (most : Int) < (x : Int)
    · simp [hx] at h
    · simp only [hx, if_false] at h
      obtain ⟨b1, b2, b3, b4⟩ := getN_bound bs at_ x nx hg
      obtain ⟨k0, rfl⟩ := Int.eq_ofNat_of_zero_le (show (0 : Int) ≤ nx by omega)
      have hj := getN_just bs at_ x _ hg
      obtain ⟨k, rfl, h1, h2, h3, h4, h5⟩ := getItems_just bs x k0 m to (by omega) h
      refine ⟨k, rfl, by omega, h2, by omega, h4, ?_⟩
      unfold listB
      rw [h3, hj, h5, Int.toNat_natCast, show k - at_ = (k0 - at_) + (k - k0) by omega, List.take_add, List.drop_drop, show at_ + (k0 - at_) = k0 by omega]
  · simp [he] at h

theorem take_join (bs : List UInt8) {a b c : Nat} (h1 : a ≤ b) (h2 : b ≤ c) : (bs.drop a).take (b - a) ++ (bs.drop b).take (c - b) = (bs.drop a).take (c - a) := by
  rw [show c - a = (b - a) + (c - b) by omega, List.take_add, List.drop_drop, show a + (b - a) = b by omega]

theorem oneR_just {bs : List UInt8} {at_ : Nat} {x : Cas} {nx : Int} (h : oneR bs at_ = .ok (x, nx)) :
    ∃ k : Nat, nx = k ∧ at_ < k ∧ k ≤ bs.length ∧ casB x = (bs.drop at_).take (k - at_) ∧ okC x = true := by
  unfold oneR at h
  cases h1 : numR bs at_ okK 3 with
  | error z => rw [h1] at h; cases h
  | ok r =>
    obtain ⟨k, a1⟩ := r
    rw [h1] at h
    dsimp only at h
    obtain ⟨a1, rfl, b1, b2, b3, b4⟩ := numR_just h1
    cases h2 : numR bs a1 okI 3 with
    | error z => rw [h2] at h; cases h
    | ok r =>
      obtain ⟨q, a2⟩ := r
      rw [h2] at h
      dsimp only at h
      obtain ⟨a2, rfl, d1, d2, d3, d4⟩ := numR_just h2
      generalize hl : getList bs (a2 : Int) 300 = r at h
      obtain ⟨l, to, f⟩ := r
      dsimp only at h
      by_cases hf : f = 0
      · subst hf
        simp only [ne_eq, not_true_eq_false, if_false, Except.ok.injEq, Prod.mk.injEq] at h
        obtain ⟨rfl, rfl⟩ := h
        obtain ⟨k', rfl, e1, e2, e3, e4, e5⟩ := getList_atj (most := 300) hl
        refine ⟨k', rfl, by omega, e2, ?_, ?_⟩
        · unfold casB
          dsimp only
          rw [Int.toNat_natCast, Int.toNat_natCast, b3, d3, e5, take_join bs (by omega) (by omega), take_join bs (by omega) (by omega)]
        · simp [okC, b4, d4, e4, e3]
      · simp [hf] at h

theorem oneR_err {bs : List UInt8} {at_ : Int} {z : Nat} (h : oneR bs at_ = .error z) : z ≠ 0 := by
  unfold oneR at h
  cases h1 : numR bs at_ okK 3 with
  | error y => rw [h1] at h; injection h with h; subst h; exact numR_err (by omega) h1
  | ok r =>
    obtain ⟨k, a1⟩ := r
    rw [h1] at h
    dsimp only at h
    cases h2 : numR bs a1 okI 3 with
    | error y => rw [h2] at h; injection h with h; subst h; exact numR_err (by omega) h2
    | ok r =>
      obtain ⟨q, a2⟩ := r
      rw [h2] at h
      dsimp only at h
      split at h
      · injection h with h; omega
      · cases h

theorem casesR_just : ∀ (bs : List UInt8) (c at_ : Nat) (l : List Cas) (to : Int), at_ ≤ bs.length → casesR bs c at_ = .ok (l, to) →
    ∃ k : Nat, to = k ∧ at_ ≤ k ∧ k ≤ bs.length ∧ l.length = c ∧ l.all okC = true ∧ l.flatMap casB = (bs.drop at_).take (k - at_)
  | bs, 0, at_, l, to, ha, h => by
    simp only [casesR, Except.ok.injEq, Prod.mk.injEq] at h
    obtain ⟨rfl, rfl⟩ := h
    exact ⟨at_, rfl, by omega, ha, rfl, rfl, by simp⟩
  | bs, c + 1, at_, l, to, ha, h => by
    unfold casesR at h
    cases h1 : oneR bs at_ with
    | error z => rw [h1] at h; cases h
    | ok r =>
      obtain ⟨x, nx⟩ := r
      rw [h1] at h
      dsimp only at h
      obtain ⟨a1, rfl, b1, b2, b3, b4⟩ := oneR_just h1
      cases h2 : casesR bs c a1 with
      | error z => rw [h2] at h; cases h
      | ok r =>
        obtain ⟨l', to'⟩ := r
        rw [h2] at h
        simp only [Except.ok.injEq, Prod.mk.injEq] at h
        obtain ⟨rfl, rfl⟩ := h
        obtain ⟨k, rfl, d1, d2, d3, d4, d5⟩ := casesR_just bs c a1 l' to' b2 h2
        refine ⟨k, rfl, by omega, d2, by simp [d3], by simp [b4, d4], ?_⟩
        rw [List.flatMap_cons, b3, d5, take_join bs (by omega) (by omega)]

theorem casesR_err : ∀ (bs : List UInt8) (c : Nat) (at_ : Int) (z : Nat), casesR bs c at_ = .error z → z ≠ 0
  | bs, 0, at_, z, h => by simp [casesR] at h
  | bs, c + 1, at_, z, h => by
    unfold casesR at h
    cases h1 : oneR bs at_ with
    | error y => rw [h1] at h; injection h with h; subst h; exact oneR_err h1
    | ok r =>
      obtain ⟨x, nx⟩ := r
      rw [h1] at h
      dsimp only at h
      cases h2 : casesR bs c nx with
      | error y => rw [h2] at h; injection h with h; subst h; exact casesR_err bs c nx _ h2
      | ok r => rw [h2] at h; cases h

theorem le4_lt (bs : List UInt8) : le4 bs < 4294967296 := by
  have h0 := (bs.getD 0 0).toNat_lt
  have h1 := (bs.getD 1 0).toNat_lt
  have h2 := (bs.getD 2 0).toNat_lt
  have h3 := (bs.getD 3 0).toNat_lt
  unfold le4
  omega

theorem leb_le4 (bs : List UInt8) (h : 4 ≤ bs.length) : leb (le4 bs) = bs.take 4 := by
  match bs, h with
  | a :: b :: c :: d :: t, _ =>
    have h0 := a.toNat_lt
    have h1 := b.toNat_lt
    have h2 := c.toNat_lt
    have h3 := d.toNat_lt
    simp only [leb, le4, List.take_succ_cons, List.take_zero, List.getD_cons_zero, List.getD_cons_succ]
    rw [show (a.toNat + 256 * (b.toNat + 256 * (c.toNat + 256 * d.toNat))) % 256 = a.toNat by omega,
      show (a.toNat + 256 * (b.toNat + 256 * (c.toNat + 256 * d.toNat))) / 256 % 256 = b.toNat by omega,
      show (a.toNat + 256 * (b.toNat + 256 * (c.toNat + 256 * d.toNat))) / 65536 % 256 = c.toNat by omega,
      show (a.toNat + 256 * (b.toNat + 256 * (c.toNat + 256 * d.toNat))) / 16777216 = d.toNat by omega]
    simp

theorem allR_just {bs : List UInt8} {g : Nat} {l : List Cas} (h : allR bs = .ok (g, l)) : corB g l = bs ∧ rightC l = true ∧ g < 4294967296 := by
  unfold allR at h
  split at h
  · rename_i hm
    cases h1 : numR bs 8 okM 5 with
    | error z => rw [h1] at h; cases h
    | ok r =>
      obtain ⟨k, a1⟩ := r
      rw [h1] at h
      dsimp only at h
      obtain ⟨a1, rfl, b1, b2, b3, b4⟩ := numR_just (at_ := 8) h1
      cases h2 : casesR bs k a1 with
      | error z => rw [h2] at h; cases h
      | ok r =>
        obtain ⟨l', to⟩ := r
        rw [h2] at h
        dsimp only at h
        obtain ⟨q, rfl, d1, d2, d3, d4, d5⟩ := casesR_just bs k a1 l' to b2 h2
        split at h
        · rename_i hto
          simp only [Except.ok.injEq, Prod.mk.injEq] at h
          obtain ⟨rfl, rfl⟩ := h
          refine ⟨?_, ?_, le4_lt _⟩
          · unfold corB headB
            rw [d3, b3, d5, take_join bs (by omega) (by omega), leb_le4 _ (by rw [List.length_drop]; omega)]
            rw [show ([71, 82, 68, 49] : List UInt8) = bs.take 4 from hm.2.symm]
            rw [show bs.take 4 ++ (bs.drop 4).take 4 = bs.take 8 from (List.take_add (l := bs) (i := 4) (j := 4)).symm]
            rw [List.take_of_length_le (l := bs.drop 8) (by rw [List.length_drop]; omega), List.take_append_drop]
          · unfold rightC
            simp only [okM, decide_eq_true_eq] at b4
            rw [d4]
            simp only [Bool.and_true, decide_eq_true_eq]
            omega
        · cases h
  · cases h

theorem allR_err {bs : List UInt8} {z : Nat} (h : allR bs = .error z) : z ≠ 0 := by
  unfold allR at h
  split at h
  · cases h1 : numR bs 8 okM 5 with
    | error y => rw [h1] at h; injection h with h; subst h; exact numR_err (by omega) h1
    | ok r =>
      obtain ⟨k, a1⟩ := r
      rw [h1] at h
      dsimp only at h
      cases h2 : casesR bs k a1 with
      | error y => rw [h2] at h; injection h with h; subst h; exact casesR_err _ _ _ _ h2
      | ok r =>
        obtain ⟨l', to⟩ := r
        rw [h2] at h
        dsimp only at h
        split at h
        · cases h
        · injection h with h; omega
  · injection h with h; omega

theorem decB_bad {bs : List UInt8} (h : (decB bs).2.2 ≠ 0) : (decB bs).1 = 0 ∧ (decB bs).2.1 = [] := by
  unfold decB at h ⊢
  split
  · exact ⟨rfl, rfl⟩
  · rename_i hlt
    rw [if_neg hlt] at h
    cases ho : openB bs with
    | none => exact ⟨rfl, rfl⟩
    | some inner =>
      rw [ho] at h
      dsimp only at h ⊢
      cases ha : allR inner with
      | error z => exact ⟨rfl, rfl⟩
      | ok r => rw [ha] at h; exact absurd rfl h

theorem openB_just {f b : List UInt8} (h : openB f = some b) : f = frameB b := by
  unfold openB at h
  split at h
  · cases h
  · split at h
    · rename_i hb
      obtain rfl := Option.some.inj h
      exact (eq_of_beq hb).symm
    · cases h

theorem decB_just {bs : List UInt8} (h : (decB bs).2.2 = 0) : frameB (corB (decB bs).1 (decB bs).2.1) = bs ∧ rightC (decB bs).2.1 = true ∧ (decB bs).1 < 4294967296 ∧ bs.length ≤ 60000 := by
  unfold decB at h ⊢
  by_cases h6 : 60000 < bs.length
  · rw [if_pos h6] at h; exact absurd h (by decide)
  · rw [if_neg h6] at h ⊢
    cases ho : openB bs with
    | none => rw [ho] at h; exact absurd h (by decide)
    | some inner =>
      rw [ho] at h
      dsimp only at h ⊢
      cases ha : allR inner with
      | error z => rw [ha] at h; exact absurd h (allR_err ha)
      | ok r =>
        obtain ⟨g, l⟩ := r
        obtain ⟨h1, h2, h3⟩ := allR_just ha
        dsimp only
        exact ⟨by rw [h1, openB_just ho], h2, h3, by omega⟩
theorem decB_lt (bs : List UInt8) : (decB bs).1 < 4294967296 := by
  by_cases h : (decB bs).2.2 = 0
  · exact (decB_just h).2.2.1
  · rw [(decB_bad h).1]; omega
end Go.Proofs.Ytbfefjlilmoigaa
