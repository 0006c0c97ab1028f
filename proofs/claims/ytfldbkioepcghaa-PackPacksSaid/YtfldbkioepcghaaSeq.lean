/- A region that draws its order, walked once in an order of the prover's choice: operations that yield one value in every later world may be taken first; what makes memory is carried out where it alone may come up. -/
import Derived.OrdersHeld
import Derived.Below
import Derived.Tactics2
namespace Go.Proofs.Ytfldbkioepcghaa
open Go.RowKit
set_option linter.unusedVariables false

/-- w' is a later world of w: what stood stands. -/
def Ext (w w' : World) : Prop := Below w.heap.size w w'
theorem Ext.refl (w : World) : Ext w w := Below.refl _ _
theorem Ext.trans {a b c : World} (h : Ext a b) (k : Ext b c) : Ext a c := Below.trans h (Below.mono k h.size)
theorem Ext.drew (w : World) : Ext w w.drew := (Below.refl _ _).drew

section
variable {P : Program} {ops : Array Oper} {Q : Exit → Act → World → Prop} {md : Region.Mode}

theorem wpAnyH_weak {S S' : World → Prop} (h : ∀ w, S' w → S w) : ∀ (fuel : Nat) (listed : Array Bool) (a : Act) (w : World), wpAnyH P md ops Q S' fuel listed a w → wpAnyH P md ops Q S fuel listed a w
  | 0, _, _, _, hh => hh
  | fuel + 1, _, _, _, hh => ⟨hh.1, fun i hi => wpOp_mono (fun a' w' h' => ⟨h _ h'.1, wpAnyH_weak h fuel _ a' w' h'.2⟩) (hh.2 i hi)⟩

/-- Is this an order in which each operation may come up and be taken first, or (marked) comes up alone? -/
def orderOk (md : Region.Mode) (ops : Array Oper) : List (Nat × Bool) → Array Bool → Bool
  | [], listed => (Region.ready md ops listed).isEmpty
  | (i, alone) :: is, listed =>
    (if alone then Region.ready md ops listed == [i] else (Region.ready md ops listed).contains i && Region.free md ops listed i) && orderOk md ops is (listed.setIfInBounds i true)

/-- The walk in that order. b: the world of which the values that are taken speak. -/
def wpSeq (P : Program) (ops : Array Oper) (Q : Exit → Act → World → Prop) : List (Nat × Bool) → World → Act → World → Prop
  | [], _, a, w => Q .normal a w
  | (i, alone) :: is, b, a, w => ∃ o, ops[i]? = some o ∧
      ((alone = false ∧ Region.wanted o (yielded ops a.tmps) = false ∧ wpSeq P ops Q is b (a.put o.dst undef) w) ∨
       (alone = false ∧ Region.wanted o (yielded ops a.tmps) = true ∧ ∃ v, (∀ W, Ext b W → (execOp a.eval o).run P W = .ok (.value v) W) ∧ wpSeq P ops Q is b (a.put o.dst v) w) ∨
       (alone = true ∧ Region.wanted o (yielded ops a.tmps) = true ∧ o.wp P a w (fun a' w' => ∃ b', Ext b b' ∧ Ext b' w' ∧ wpSeq P ops Q is b' a' w') Q))

theorem wpAnyH_of_seq (hns : Region.noSelect ops = true) (hQ : ∀ c a d v w, Q (.panic c) (Act.put a d v) w → Q (.panic c) a w) : ∀ (order : List (Nat × Bool)) (listed : Array Bool) (b : World) (a : Act) (w : World),
    orderOk md ops order listed = true → Ext b w → wpSeq P ops Q order b a w → wpAnyH P md ops Q (Ext b) order.length listed a w
  | [], listed, b, a, w, hok, hb, h => wpAnyH_done (by simpa [orderOk] using hok) h _
  | (i, alone) :: is, listed, b, a, w, hok, hb, h => by
    obtain ⟨o, ho, h⟩ := h
    simp only [orderOk, Bool.and_eq_true] at hok
    obtain ⟨h1, h2⟩ := hok
    rcases h with ⟨ha, hw, hk⟩ | ⟨ha, hw, v, hv, hk⟩ | ⟨ha, hw, hk⟩
    · subst ha
      simp only [Bool.false_eq_true, if_false, Bool.and_eq_true] at h1
      exact wpAnyH_take (v := undef) ho hns h1.2 h1.1 (fun c a w => hQ c a o.dst undef w) (Or.inr ⟨hw, rfl⟩) hb (wpAnyH_of_seq hns hQ is _ b _ w h2 hb hk)
    · subst ha
      simp only [Bool.false_eq_true, if_false, Bool.and_eq_true] at h1
      exact wpAnyH_take (v := v) ho hns h1.2 h1.1 (fun c a w => hQ c a o.dst v w) (Or.inl ⟨hw, hv⟩) hb (wpAnyH_of_seq hns hQ is _ b _ w h2 hb hk)
    · subst ha
      simp only [if_true, beq_iff_eq] at h1
      refine wpAnyH_all h1 (by simp) fun j hj => ?_
      obtain rfl : j = i := by simpa using hj
      have h3 : wpOp P ops Q j (fun a' w' => ∃ b', Ext b b' ∧ Ext b' w' ∧ wpSeq P ops Q is b' a' w') a w := by
        unfold wpOp
        simp only [ho, hw, if_true]
        exact .inl hk
      exact wpOp_mono (fun a' w' ⟨b', e1, e2, hk'⟩ => ⟨e1.trans e2, wpAnyH_weak (fun W hW => e1.trans hW) _ _ _ _ (wpAnyH_of_seq hns hQ is _ b' a' w' h2 e2 hk')⟩) h3

/-- The same walk over the operations themselves. -/
def wpSeqL (P : Program) (ops : Array Oper) (Q : Exit → Act → World → Prop) : List (Oper × Bool) → World → Act → World → Prop
  | [], _, a, w => Q .normal a w
  | (o, alone) :: is, b, a, w =>
      (alone = false ∧ Region.wanted o (yielded ops a.tmps) = false ∧ wpSeqL P ops Q is b (a.put o.dst undef) w) ∨
       (alone = false ∧ Region.wanted o (yielded ops a.tmps) = true ∧ ∃ v, (∀ W, Ext b W → (execOp a.eval o).run P W = .ok (.value v) W) ∧ wpSeqL P ops Q is b (a.put o.dst v) w) ∨
       (alone = true ∧ Region.wanted o (yielded ops a.tmps) = true ∧ o.wp P a w (fun a' w' => ∃ b', Ext b b' ∧ Ext b' w' ∧ wpSeqL P ops Q is b' a' w') Q)

theorem wpSeq_of_list {l : List Oper} : ∀ (order : List (Nat × Bool)) (b : World) (a : Act) (w : World), (order.all fun p => decide (p.1 < l.length)) = true →
    wpSeqL P l.toArray Q (order.map fun p => ((l[p.1]?).getD default, p.2)) b a w → wpSeq P l.toArray Q order b a w
  | [], _, _, _, _, h => h
  | (i, alone) :: is, b, a, w, hall, h => by
    simp only [List.all_cons, Bool.and_eq_true, decide_eq_true_eq] at hall
    obtain ⟨hi, hall⟩ := hall
    have e : l[i]? = some (l[i]'hi) := List.getElem?_eq_getElem hi
    simp only [List.map_cons, e, Option.getD_some, wpSeqL] at h
    refine ⟨l[i]'hi, by simp, ?_⟩
    rcases h with ⟨ha, hw, hk⟩ | ⟨ha, hw, v, hv, hk⟩ | ⟨ha, hw, hk⟩
    · exact .inl ⟨ha, hw, wpSeq_of_list is _ _ _ hall hk⟩
    · exact .inr (.inl ⟨ha, hw, v, hv, wpSeq_of_list is _ _ _ hall hk⟩)
    · exact .inr (.inr ⟨ha, hw, Oper.wp_mono (fun a' w' ⟨b', e1, e2, hk'⟩ => ⟨b', e1, e2, wpSeq_of_list is _ _ _ hall hk'⟩) hk⟩)

/-- A region that draws its order. -/
theorem wp_region_seq {id : Nat} {l : List Oper} {a : Act} {w : World} (order : List (Nat × Bool)) (hm : P.follows .mixedOrders = true) (hns : Region.noSelect l.toArray = true)
    (hok : orderOk .any l.toArray order (Array.replicate l.length false) = true) (hlen : order.length = l.length) (hall : (order.all fun p => decide (p.1 < l.length)) = true)
    (hQ : ∀ c a d v w, Q (.panic c) (Act.put a d v) w → Q (.panic c) a w)
    (h : wpSeqL P l.toArray Q (order.map fun p => ((l[p.1]?).getD default, p.2)) w a w.drew) : (Code.region id l.toArray true).wp P Q a w :=
  wp_region_held (S := Ext w) hm (by
    have := wpAnyH_of_seq (md := .any) hns hQ order (Array.replicate l.length false) w a w.drew hok (Ext.drew w) (wpSeq_of_list order w a w.drew hall h)
    rw [hlen] at this
    simpa using this)

section
variable {is : List (Oper × Bool)} {b : World} {a : Act} {w : World} {o : Oper}
theorem wpSeq_nil (h : Q .normal a w) : wpSeqL P ops Q [] b a w := h
theorem wpSeq_skip {d : Tmp} (hw : Region.wanted o (yielded ops a.tmps) = false) (hd : o.dst = some d) (h : wpSeqL P ops Q is b ⟨a.tmps.setIfInBounds d undef, a.defers⟩ w) : wpSeqL P ops Q ((o, false) :: is) b a w :=
  .inl ⟨rfl, hw, by unfold Act.put; rw [hd]; exact h⟩
theorem wpSeq_take {v : Value} {d : Tmp} (hw : Region.wanted o (yielded ops a.tmps) = true) (hd : o.dst = some d) (hv : ∀ W, Ext b W → (execOp a.eval o).run P W = .ok (.value v) W) (h : wpSeqL P ops Q is b ⟨a.tmps.setIfInBounds d v, a.defers⟩ w) :
    wpSeqL P ops Q ((o, false) :: is) b a w :=
  .inr (.inl ⟨rfl, hw, v, hv, by unfold Act.put; rw [hd]; exact h⟩)
theorem wpSeq_alone (hw : Region.wanted o (yielded ops a.tmps) = true)
    (h : ∀ K : Act → World → Prop, (∀ a' w' b', Ext b b' → Ext b' w' → wpSeqL P ops Q is b' a' w' → K a' w') → o.wp P a w K Q) : wpSeqL P ops Q ((o, true) :: is) b a w :=
  .inr (.inr ⟨rfl, hw, h _ fun a' w' b' e1 e2 hk => ⟨b', e1, e2, hk⟩⟩)
end
end

end Go.Proofs.Ytfldbkioepcghaa
