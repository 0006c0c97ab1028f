/- Walks over corpus: one case read. -/
import Derived.Test.YtbfefjlilmoigaaD1
namespace Go.Proofs.Ytbfefjlilmoigaa
open Go.RowKit
set_option linter.unusedVariables false

/-- A word whose row is one of numbers: writes to blocks of other types leave it. -/
def WordT (w : World) (A : Option Addr) (c : Nat) (l : List Int) : Prop := WordAt w A c l ∧ ∀ a, A = some a → ∃ cs fz, w.heap[a.block]? = some (.cells cs 3 fz)

theorem Elems.keep' {w w' : World} {A : Option Addr} {n : Nat} {xs : List Value} {g : Nat} (h : Elems w A n xs) (hA : ∀ a, A = some a → a.block ≠ g) (hk : w.grownBy w' (some g)) : Elems w' A n xs :=
  ⟨h.1, fun hn => by
    obtain ⟨b, o, e, hc⟩ := h.2 hn
    have hb : b ≠ g := hA _ e
    exact ⟨b, o, e, fun j u hu => hk.cell (hc j u hu) (by intro hh; exact hb (Option.some.inj hh))⟩⟩

theorem WordT.keep {w w' : World} {A : Option Addr} {c : Nat} {l : List Int} {r : Option Nat} (h : WordT w A c l) (hk : w.grownBy w' r) (hr : ∀ g, r = some g → ∀ cs fz, w.heap[g]? ≠ some (.cells cs 3 fz)) : WordT w' A c l := by
  refine ⟨⟨⟨h.1.1.1, fun hn => ?_⟩, h.1.2⟩, fun a ha => ?_⟩
  · obtain ⟨b, o, e, hc⟩ := h.1.1.2 hn
    obtain ⟨cs, fz, hh⟩ := h.2 _ e
    exact ⟨b, o, e, fun j u hu => hk.cell (hc j u hu) (by intro h2; exact hr b h2.symm cs fz hh)⟩
  · obtain ⟨cs, fz, hh⟩ := h.2 a ha
    have hlt := (Array.getElem?_eq_some_iff.1 hh).1
    exact ⟨cs, fz, (hk.block _ hlt (by intro h2; exact hr a.block h2.symm cs fz hh)).trans hh⟩

theorem OwnI.word {w : World} {base : Nat} {v : Value} {l : List Int} (h : OwnI w base v l) : ∃ A c, v = .slice A l.length c ∧ WordT w A c l := by
  rcases h.2 with ⟨rfl, h0⟩ | ⟨g, cap, cur, rfl, hg, hh, h1, h2, r⟩
  · have : l = [] := List.eq_nil_of_length_eq_zero h0
    subst this
    exact ⟨none, 0, rfl, ⟨⟨Elems.nil _ _, Nat.le_refl _, by omega⟩, fun a ha => by cases ha⟩⟩
  · exact ⟨_, cap, rfl, ⟨⟨Elems.of_own h, h1, h2⟩, fun a ha => by cases ha; exact ⟨_, _, hh⟩⟩⟩

/-- One case read: it and the place behind, or the error's number. -/
def oneR (bs : List UInt8) (at_ : Int) : Except Nat (Cas × Int) :=
  match numR bs at_ okK 3 with
  | .error z => .error z
  | .ok (k, a1) =>
    match numR bs a1 okI 3 with
    | .error z => .error z
    | .ok (q, a2) =>
      if (getList bs a2 300).2.2 ≠ 0 then .error (getList bs a2 300).2.2
      else .ok (⟨k, q, (getList bs a2 300).1⟩, (getList bs a2 300).2.1)

def OnePost (w : World) (g : Nat) (A : Option Addr) (n c : Nat) (r : Except Nat (Cas × Int)) (e : Ending) (w' : World) : Prop :=
  Keep g w w' ∧ match r with
    | .error z => e = wrongP (z : Int)
    | .ok (x, nx) => (∃ A' c', e = .returned (.agg #[.int .i64 x.kind, .int .i64 x.note, .slice A' x.word.length c']) ∧ WordT w' A' c' x.word) ∧ Rd w' g A n c nx

theorem Keep.trans {g : Nat} {a b d : World} (h : Keep g a b) (k : Keep g b d) : Keep g a d :=
  ⟨k.os.trans h.os, k.tape.trans h.tape, k.output.trans h.output, Nat.le_trans h.size k.size, fun i hi hne => (k.block i (Nat.lt_of_lt_of_le hi h.size) hne).trans (h.block i hi hne)⟩
theorem Keep.of_below {g : Nat} {a b : World} (h : Below a.heap.size a b) : Keep g a b := ⟨h.os, h.tape, h.output, h.size, fun i hi _ => h.block i hi⟩

theorem Keep.row {g g' : Nat} {w w' : World} {t : TypeId} {cs : Array Value} (h : Keep g w w') (hr : Row w g' t cs) (hne : g' ≠ g) : Row w' g' t cs :=
  (h.block g' hr.lt (fun e => hne (Option.some.inj e))).trans hr
theorem Keep.put {g p : Nat} {w w' : World} (h : Keep g w w') (i : Nat) (u : Value) (hp : p = g ∨ w.heap.size ≤ p) : Keep g w (w'.setCell ⟨p, i, none⟩ u) :=
  ⟨h.os, h.tape, h.output, by simpa using h.size, fun k hk hne => (Below.heap_setCell w' ⟨p, i, none⟩ u k (fun e => by
    have e : k = p := e
    rcases hp with hp | hp
    · exact hne (by rw [e, hp])
    · omega)).trans (h.block k hk hne)⟩
theorem Keep.bytes {g : Nat} {w w' : World} {A : Option Addr} {n : Nat} {bs : List UInt8} (h : Keep g w w') (hb : Bytes w A n bs) (hA : ∀ a, A = some a → a.block ≠ g) : Bytes w' A n bs := Elems.keep' hb hA h
theorem WordT.put {w : World} {A : Option Addr} {c : Nat} {l : List Int} {p : Nat} {t : TypeId} {cs : Array Value} (h : WordT w A c l) (hr : Row w p t cs) (ht : t ≠ 3) (i : Nat) (u : Value) : WordT (w.setCell ⟨p, i, none⟩ u) A c l :=
  h.keep (r := some p) ⟨rfl, rfl, rfl, by simp, fun k hk hne => Below.heap_setCell w ⟨p, i, none⟩ u k (fun e => hne (by rw [show k = p from e]))⟩ (fun g hg cs' fz hh => by
    obtain rfl := Option.some.inj hg
    unfold Row at hr
    rw [hr] at hh
    injection hh with hh
    injection hh with _ h2 _
    exact ht h2)
theorem WordT.below {w w' : World} {A : Option Addr} {c : Nat} {l : List Int} (h : WordT w A c l) (hb : Below w.heap.size w w') : WordT w' A c l :=
  h.keep (r := none) ⟨hb.os, hb.tape, hb.output, hb.size, fun k hk _ => hb.block k hk⟩ (fun g hg => by cases hg)
theorem numR_ok {bs : List UInt8} {at_ : Int} {p : Int → Bool} {why x : Nat} {nx : Int} (h : numR bs at_ p why = .ok (x, nx)) : Code.getN bs at_ = (x, nx, 0) ∧ p (x : Int) = true := by
  unfold numR at h
  split at h
  · cases h
  · rename_i h0
    split at h
    · rename_i h1
      injection h with h
      obtain ⟨rfl, rfl⟩ := Prod.mk.inj h
      exact ⟨by rw [← Decidable.not_not.1 h0], h1⟩
    · cases h

set_option maxHeartbeats 2000000 in
set_option maxRecDepth 100000 in
theorem one_any (g : Nat) (A : Option Addr) (n c : Nat) (bs : List UInt8) (at_ : Nat) (w : World) (hr : Rd w g A n c (at_ : Int)) (hb : Bytes w A n bs) (hA : ∀ a, A = some a → a.block ≠ g)
    (hn : n ≤ 1000000) (hnc : n ≤ c) (hcm : c ≤ 9223372036854775807) (hat : at_ ≤ n) :
    Calls Try.prog 64 #[.pointer (some ⟨g, 0, none⟩)] w (OnePost w g A n c (oneR bs at_)) := by
  have H := hide hb
  have hl := hide hb.len
  have HR := hide hr
  have HA := hide hA
  clear hb hr hA
  have hp3 : g < w.heap.size := HR.out.lt
  have hne : w.heap.size ≠ g := by omega
  have k1 : Keep g w (w.alloc (.cells #[.int .i64 0, .int .i64 0, .slice none 0 0] 66)) := Keep.of_below (below_alloc _ _)
  have r1 : Row (w.alloc (.cells #[.int .i64 0, .int .i64 0, .slice none 0 0] 66)) w.heap.size 66 #[.int .i64 0, .int .i64 0, .slice none 0 0] := Row.new _ _ _
  have C1 := number_kind g A n c bs at_ 3 (w.alloc (.cells #[.int .i64 0, .int .i64 0, .slice none 0 0] 66)) (HR.out.alloc _) (k1.bytes H.out HA.out) HA.out (by omega) hnc hcm hat
  have hone : Hid (oneR bs at_ = match numR bs at_ okK 3 with
    | .error z => .error z
    | .ok (k, a1) =>
      match numR bs a1 okI 3 with
      | .error z => .error z
      | .ok (q, a2) =>
        if (getList bs a2 300).2.2 ≠ 0 then .error (getList bs a2 300).2.2
        else .ok (⟨k, q, (getList bs a2 300).1⟩, (getList bs a2 300).2.1)) := rfl
  have hk1 := hide k1
  have hr1 := hide r1
  clear k1 r1
  go_enter Try.func64, Try.ntmps64
  go_wp2_with fail
  generalize hp : w.heap.size = p3 at *
  generalize w.alloc (.cells #[.int .i64 0, .int .i64 0, .slice none 0 0] 66) = w1 at *
  cases hx : numR bs at_ okK 3 with
  | error z =>
    rw [hx] at C1 hone
    refine C1.mono ?_
    rintro e w2 ⟨hk2, he⟩
    dsimp only at he
    unfold wrongP at he
    subst he
    dsimp only at hone
    go_wp2_with fail
    rw [hone.out]
    exact ⟨rfl, hk1.out.trans hk2, rfl⟩
  | ok r =>
    obtain ⟨kk, a1⟩ := r
    rw [hx] at C1 hone
    obtain ⟨hg1, hok1⟩ := numR_ok hx
    dsimp only at hone
    obtain ⟨b1, b2, b3, b4⟩ := getN_bound _ _ _ _ hg1
    obtain ⟨a1, rfl⟩ := Int.eq_ofNat_of_zero_le (show (0 : Int) ≤ a1 by omega)
    have hln := hl.out
    have ha1 : a1 ≤ n := by omega
    clear b1 b2 b3 hg1 hx hln
    refine C1.mono ?_
    rintro e w2 ⟨hk2, rfl, hR2⟩
    clear C1
    have hk2' := hide (hk1.out.trans hk2)
    have hr2 := hide (hk2.row hr1.out hne)
    have hcell : w2.cell? ⟨p3, 0, none⟩ = some (.int .i64 0) := (hr2.out.cell 0).trans rfl
    have hfz := hr2.out.frozen 0
    have hk3 := hide (hk2'.out.put (p := p3) 0 (.int .i64 (kk : Int)) (.inr (by omega)))
    have hr3 : Hid (Row (w2.setCell ⟨p3, 0, none⟩ (.int .i64 (kk : Int))) p3 66 #[.int .i64 (kk : Int), .int .i64 0, .slice none 0 0]) := hr2.out.put 0 _
    have hR3 : Rd (w2.setCell ⟨p3, 0, none⟩ (.int .i64 (kk : Int))) g A n c (a1 : Int) := Row.far hR2 (p := ⟨p3, 0, none⟩) (by show g ≠ p3; omega) _
    have C2 := number_small g A n c bs a1 3 (w2.setCell ⟨p3, 0, none⟩ (.int .i64 (kk : Int))) hR3 (hk3.out.bytes H.out HA.out) HA.out (by omega) hnc hcm ha1
    clear hk2 hR2 hR3 hr2
    go_wp2_with fail
    clear hcell hfz
    generalize w2.setCell ⟨p3, 0, none⟩ (.int .i64 (kk : Int)) = w3 at *
    cases hx : numR bs a1 okI 3 with
    | error z =>
      rw [hx] at C2 hone
      refine C2.mono ?_
      rintro e w4 ⟨hk4, he⟩
      dsimp only at he
      unfold wrongP at he
      subst he
      dsimp only at hone
      go_wp2_with fail
      rw [hone.out]
      exact ⟨rfl, hk3.out.trans hk4, rfl⟩
    | ok r =>
      obtain ⟨qq, a2⟩ := r
      rw [hx] at C2 hone
      obtain ⟨hg1, hok2⟩ := numR_ok hx
      dsimp only at hone
      obtain ⟨b1, b2, b3, b5⟩ := getN_bound _ _ _ _ hg1
      obtain ⟨a2, rfl⟩ := Int.eq_ofNat_of_zero_le (show (0 : Int) ≤ a2 by omega)
      have hln := hl.out
      have ha2 : a2 ≤ n := by omega
      clear b1 b2 b3 hg1 hx hln
      refine C2.mono ?_
      rintro e w4 ⟨hk4, rfl, hR4⟩
      clear C2
      have hk4' := hide (hk3.out.trans hk4)
      have hr4 := hide (hk4.row hr3.out hne)
      have hcell : w4.cell? ⟨p3, 1, none⟩ = some (.int .i64 0) := (hr4.out.cell 1).trans rfl
      have hfz := hr4.out.frozen 1
      have hk5 := hide (hk4'.out.put (p := p3) 1 (.int .i64 (qq : Int)) (.inr (by omega)))
      have hr5 : Hid (Row (w4.setCell ⟨p3, 1, none⟩ (.int .i64 (qq : Int))) p3 66 #[.int .i64 (kk : Int), .int .i64 (qq : Int), .slice none 0 0]) := hr4.out.put 1 _
      have hR5 : Hid (Rd (w4.setCell ⟨p3, 1, none⟩ (.int .i64 (qq : Int))) g A n c (a2 : Int)) := Row.far hR4 (p := ⟨p3, 1, none⟩) (by show g ≠ p3; omega) _
      clear hk4 hR4 hr4
      go_wp2_with fail
      clear hcell hfz
      generalize w4.setCell ⟨p3, 1, none⟩ (.int .i64 (qq : Int)) = w5 at *
      have E0 : ∀ W, Ext w5 W → W.cell? ⟨g, 0, none⟩ = some (.slice A n c) := fun W hW => (hW.cell hR5.out.lt).trans ((hR5.out.cell 0).trans rfl)
      have E1 : ∀ W, Ext w5 W → W.cell? ⟨g, 1, none⟩ = some (.int .i64 (a2 : Int)) := fun W hW => (hW.cell hR5.out.lt).trans ((hR5.out.cell 1).trans rfl)
      have C3 := getl_any A n c bs (a2 : Int) 300 w5.drew ((hk5.out.bytes H.out HA.out).below (Ext.drew w5)) hn hnc hcm (by omega) (by omega)
      refine wp_region_seq [(0, false), (1, false), (2, false), (3, false), (4, false), (5, false), (6, false), (7, false), (8, true), (9, false), (10, false), (11, false), (12, false), (13, false), (14, false), (15, false)]
        (by kernel_rfl) (by kernel_rfl) (by kernel_rfl) rfl (by kernel_rfl) (fun _ _ d _ _ h => by cases d <;> exact h) ?_
      simp only [List.map_cons, List.map_nil, List.getElem?_cons_succ, List.getElem?_cons_zero, Option.getD_some]
      iterate 8 (refine wpSeq_take rfl rfl (fun W hW => (by have e0 := E0 W hW; have e1 := E1 W hW; go_simp; with_reducible rfl)) ?_; simp only [List.setIfInBounds_toArray, List.set_cons_zero, List.set_cons_succ])
      refine wpSeq_alone rfl (fun K hK => ?_)
      generalize getList bs (a2 : Int) 300 = r at *
      obtain ⟨l, to, f⟩ := r
      go_wp2_with fail
      refine C3.mono ?_
      clear C3
      rintro e w6 ⟨v6, rfl, hown6, hbel6⟩
      dsimp only at hown6 hone ⊢
      obtain ⟨A6, c6, hv6, hw6⟩ := hown6.word
      subst hv6
      have hx6 : Ext w5 w6 := below_both (Ext.drew w5) hbel6 (Nat.le_refl _)
      refine hK _ _ w6 hx6 (Ext.refl _) ?_
      clear hK K hown6 hbel6
      iterate 7 (refine wpSeq_take rfl rfl (fun W hW => (by go_simp; with_reducible rfl)) ?_; simp only [List.setIfInBounds_toArray, List.set_cons_zero, List.set_cons_succ])
      refine wpSeq_nil ?_
      have hk6 := hide (hk5.out.trans (Keep.of_below hx6))
      have hr6 : Hid (Row w6 p3 66 #[.int .i64 (kk : Int), .int .i64 (qq : Int), .slice none 0 0]) := hr5.out.below hx6 hr5.out.lt
      have hR6 : Hid (Rd w6 g A n c (a2 : Int)) := Row.below hR5.out hx6 hR5.out.lt
      have hw6' := hide hw6
      clear E0 E1 hw6
      by_cases hf : f = 0
      · subst hf
        rw [if_neg (by simp)] at hone
        have hcell : w6.cell? ⟨p3, 2, none⟩ = some (.slice none 0 0) := (hr6.out.cell 2).trans rfl
        have hfz := hr6.out.frozen 2
        have hr7 : Hid (Row (w6.setCell ⟨p3, 2, none⟩ (.slice A6 l.length c6)) p3 66 #[.int .i64 (kk : Int), .int .i64 (qq : Int), .slice A6 l.length c6]) := hr6.out.put 2 _
        have hR7 : Hid (Rd (w6.setCell ⟨p3, 2, none⟩ (.slice A6 l.length c6)) g A n c (a2 : Int)) := Row.far hR6.out (p := ⟨p3, 2, none⟩) (by show g ≠ p3; omega) _
        have hcg : (w6.setCell ⟨p3, 2, none⟩ (.slice A6 l.length c6)).cell? ⟨g, 1, none⟩ = some (.int .i64 (a2 : Int)) := (hR7.out.cell 1).trans rfl
        have hfg : (w6.setCell ⟨p3, 2, none⟩ (.slice A6 l.length c6)).frozen? ⟨g, 1, none⟩ = false := hR7.out.frozen 1
        have hr8 : Hid (Row ((w6.setCell ⟨p3, 2, none⟩ (.slice A6 l.length c6)).setCell ⟨g, 1, none⟩ (.int .i64 to)) p3 66 #[.int .i64 (kk : Int), .int .i64 (qq : Int), .slice A6 l.length c6]) := Row.far hr7.out (p := ⟨g, 1, none⟩) (by show p3 ≠ g; omega) _
        have hR8 : Hid (Rd ((w6.setCell ⟨p3, 2, none⟩ (.slice A6 l.length c6)).setCell ⟨g, 1, none⟩ (.int .i64 to)) g A n c to) := Row.put hR7.out 1 _
        go_wp2_with fail
        refine (ask_yes _ _).mono ?_
        rintro e w7 ⟨rfl, rfl⟩
        have c80 := (hr8.out.cell 0).trans (show _ = some (.int .i64 (kk : Int)) from rfl)
        have c81 := (hr8.out.cell 1).trans (show _ = some (.int .i64 (qq : Int)) from rfl)
        have c82 := (hr8.out.cell 2).trans (show _ = some (.slice A6 l.length c6) from rfl)
        have f80 := hr8.out.frozen 0
        have f81 := hr8.out.frozen 1
        have f82 := hr8.out.frozen 2
        go_wp2_with fail
        have hr9 := hide (((hr8.out.put 0 (.int .i64 (kk : Int))).put 1 (.int .i64 (qq : Int))).put 2 (.slice A6 l.length c6))
        have hR9 := hide (Row.far (Row.far (Row.far hR8.out (p := ⟨p3, 0, none⟩) (by show g ≠ p3; omega) (.int .i64 (kk : Int))) (p := ⟨p3, 1, none⟩) (by show g ≠ p3; omega) (.int .i64 (qq : Int))) (p := ⟨p3, 2, none⟩) (by show g ≠ p3; omega) (.slice A6 l.length c6))
        have hk9 := hide (((((hk6.out.put (p := p3) 2 (.slice A6 l.length c6) (.inr (by omega))).put (p := g) 1 (.int .i64 to) (.inl rfl)).put (p := p3) 0 (.int .i64 (kk : Int)) (.inr (by omega))).put (p := p3) 1 (.int .i64 (qq : Int)) (.inr (by omega))).put (p := p3) 2 (.slice A6 l.length c6) (.inr (by omega)))
        have hw9 := hide (((((hw6'.out.put hr6.out (by decide) 2 (.slice A6 l.length c6)).put hR7.out (by decide) 1 (.int .i64 to)).put hr8.out (by decide) 0 (.int .i64 (kk : Int))).put (hr8.out.put 0 (.int .i64 (kk : Int))) (by decide) 1 (.int .i64 (qq : Int))).put ((hr8.out.put 0 (.int .i64 (kk : Int))).put 1 (.int .i64 (qq : Int))) (by decide) 2 (.slice A6 l.length c6))
        clear c80 c81 c82 f80 f81 f82 hcg hfg
        generalize ((((w6.setCell ⟨p3, 2, none⟩ (.slice A6 l.length c6)).setCell ⟨g, 1, none⟩ (.int .i64 to)).setCell ⟨p3, 0, none⟩ (.int .i64 (kk : Int))).setCell ⟨p3, 1, none⟩ (.int .i64 (qq : Int))).setCell ⟨p3, 2, none⟩ (.slice A6 l.length c6) = w9 at *
        have c90 : w9.cell? ⟨p3, 0, none⟩ = some (.int .i64 (kk : Int)) := (hr9.out.cell 0).trans rfl
        have c91 : w9.cell? ⟨p3, 1, none⟩ = some (.int .i64 (qq : Int)) := (hr9.out.cell 1).trans rfl
        have c92 : w9.cell? ⟨p3, 2, none⟩ = some (.slice A6 l.length c6) := (hr9.out.cell 2).trans rfl
        refine bodyPost_ret (v := .agg #[.int .i64 (kk : Int), .int .i64 (qq : Int), .slice A6 l.length c6]) (by simp [results, Try.results64, go_sem, c90, c91, c92]; try rfl) rfl ?_
        rw [hone.out]
        exact ⟨hk9.out, ⟨A6, c6, rfl, hw9.out⟩, hR9.out⟩
      · have hft : ((f : Int) == 0) = false := by simp; omega
        rw [if_pos (by simpa using hf)] at hone
        go_wp2_with fail
        refine (ask_no _ _).mono ?_
        rintro e w7 ⟨rfl, rfl⟩
        go_wp2_with fail
        rw [hone.out]
        exact ⟨rfl, hk6.out, rfl⟩
end Go.Proofs.Ytbfefjlilmoigaa
