/- The reference's Pack: what stands in its loop, in memory and as plain data. -/
import Derived.Test.YtfldbkioepcghaaT18
import Derived.Test.YtfldbkioepcghaaT16
import Derived.Test.YtfldbkioepcghaaP1
namespace Go.Proofs.Ytfldbkioepcghaa
open Go.RowKit
set_option linter.unusedVariables false

/-- Where a row stands among rows, or how many there are. -/
def idxN {α : Type} [DecidableEq α] : List (List α) → List α → Nat
  | [], _ => 0
  | y :: l, x => if x = y then 0 else idxN l x + 1
def addF {α : Type} [DecidableEq α] (all : List (List α)) (x : List α) : List (List α) := if idxN all x = all.length then all ++ [x] else all
theorem idxN_hit {α : Type} [DecidableEq α] : ∀ {ll : List (List α)} {x : List α} {j : Nat}, (ll.take j).all (fun y => !decide (y = x)) = true → ll[j]? = some x → idxN ll x = j
  | [], x, j, _, h => by simp at h
  | y :: l, x, 0, _, h => by
    obtain rfl : y = x := by simpa using h
    simp [idxN]
  | y :: l, x, j + 1, ht, h => by
    rw [List.take_succ_cons, List.all_cons, Bool.and_eq_true] at ht
    have hy : ¬ y = x := by simpa using ht.1
    rw [idxN, if_neg (fun e => hy e.symm), idxN_hit ht.2 (by simpa using h)]
theorem idxN_none {α : Type} [DecidableEq α] : ∀ {ll : List (List α)} {x : List α}, ll.all (fun y => !decide (y = x)) = true → idxN ll x = ll.length
  | [], x, _ => rfl
  | y :: l, x, ht => by
    rw [List.all_cons, Bool.and_eq_true] at ht
    have hy : ¬ y = x := by simpa using ht.1
    rw [idxN, if_neg (fun e => hy e.symm), idxN_none ht.2, List.length_cons]
theorem idxN_le {α : Type} [DecidableEq α] : ∀ (ll : List (List α)) (x : List α), idxN ll x ≤ ll.length
  | [], x => Nat.le_refl _
  | y :: l, x => by
    have := idxN_le l x
    rw [idxN, List.length_cons]
    split <;> omega
theorem idxN_idxF {α : Type} [DecidableEq α] : ∀ (ll : List (List α)) (x : List α) (i : Nat), idxF ll x i = if idxN ll x = ll.length then -1 else ((i + idxN ll x : Nat) : Int)
  | [], x, i => rfl
  | y :: l, x, i => by
    rw [idxF, idxN]
    by_cases h : x = y
    · rw [if_pos h, if_pos h, if_neg (by simp)]
      rfl
    · rw [if_neg h, if_neg h, idxN_idxF l x (i + 1), List.length_cons]
      by_cases h2 : idxN l x = l.length
      · rw [if_pos h2, if_pos (by omega)]
      · rw [if_neg h2, if_neg (by omega)]
        congr 1
        omega
theorem share_step {α β : Type} [DecidableEq α] (pk : List β → List α) (r : List β) (rs : List (List β)) (all : List (List α)) (of : List Int) :
    shareF pk (r :: rs) all of = shareF pk rs (addF all (pk r)) (of ++ [(idxN all (pk r) : Int)]) := by
  rw [shareF, idxN_idxF, addF]
  by_cases h : idxN all (pk r) = all.length
  · rw [if_pos h, if_pos h, if_pos (by omega), h]
  · rw [if_neg h, if_neg h, if_neg (by omega), Nat.zero_add]
theorem share_drop {α β : Type} [DecidableEq α] (pk : List β → List α) {l : List (List β)} {j : Nat} {r : List β} (hr : l[j]? = some r) (all : List (List α)) (of : List Int) :
    shareF pk (l.drop j) all of = shareF pk (l.drop (j + 1)) (addF all (pk r)) (of ++ [(idxN all (pk r) : Int)]) := by
  have hj := (List.getElem?_eq_some_iff.1 hr).1
  rw [List.drop_eq_getElem_cons hj]
  obtain ⟨_, rfl⟩ := List.getElem?_eq_some_iff.1 hr
  exact share_step pk _ _ _ _
theorem addF_len {α : Type} [DecidableEq α] (all : List (List α)) (x : List α) : (addF all x).length ≤ all.length + 1 := by
  unfold addF
  split <;> simp

/-- append of one number onto a row of the call's own: where the new row's block lies is told. -/
theorem stepI {w : World} {ops : Array Oper} {o : Oper} {a : Act} {K : Act → World → Prop} {Q : Exit → Act → World → Prop} {E : Prop} (base : Nat) {A' : Option Addr} {i c' : Nat} {l : List Int} (hown : OwnR w base 3 1 f1 (.slice A' i c') l)
    {g : Nat} {x : Int} (hr : Row w g 3 (f1 x).toArray) (hll : l.length = i)
    (hlen : i ≤ 1000000) (hbase : base ≤ w.heap.size) (hgd : o.guard = none) (s y : Operand)
    (ho : o.op = .call { callee := .builtin .append, args := #[s, y], argTypes := #[30, 30] }) (hs : a.eval s = .slice A' i c') (c : Nat) (hx : a.eval y = .slice (some ⟨g, 0, none⟩) 1 c)
    (h : ∀ A2 c2 w', OwnR w' base 3 1 f1 (.slice A2 (i + 1) c2) (l ++ [x]) → Below base w w' → w.grownBy w' (Value.ownBlock (.slice A' i c')) → (Value.ownBlock (.slice A2 (i + 1) c2) = Value.ownBlock (.slice A' i c') ∨ Value.ownBlock (.slice A2 (i + 1) c2) = some w.heap.size) → K (a.put o.dst (.slice A2 (i + 1) c2)) w') :
    if Region.wanted o (yielded ops a.tmps) = true then Oper.wp Try.prog o a w K Q else E := by
  have hw : Region.wanted o (yielded ops a.tmps) = true := by simp [Region.wanted, hgd]
  rw [if_pos hw]
  obtain ⟨ii, z, ht, hi, hz, hsize, hb, hzs⟩ := ti30.all
  subst hll
  have hin := In.row (k := 1) (f := f1) rfl hr
  obtain ⟨b, o', he, hc⟩ := hin.2.2 (by omega)
  injection he with he
  injection he with e1 e2 _
  subst e1 e2
  have hl : (flat f1 [x]).length = 1 * 1 := rfl
  obtain ⟨v', w', hrun, h2, h3, _, h5⟩ := run_append_own_at (P := Try.prog) w base 30 o.type 3 ii z 1 8 ht hi hz hsize hb hzs (by omega) _ l.length (flat f1 l) hown ⟨g, 0, none⟩ 1 c (flat f1 [x]) hl
    (fun j u hu => by rw [Addr.add_lit']; exact hc j u hu) (fun u hu => by rw [flat_one] at hu; exact one1 x u hu) (by unfold maxLen; omega) (by omega) hbase
  obtain ⟨A2, c2, rfl, _⟩ := own_slice h2
  unfold Oper.wp execOp
  simp only [ho, resolve, invoke, builtin, Sem.run_bind, Sem.run_pure, Result.andThen_ok, List.map_toArray, List.map_cons, List.map_nil, hs, hx, hrun]
  refine h A2 c2 w' ?_ ((Below.refl _ _).grown h3 hbase fun k hk => (own_block hown hk).1) h3 h5
  unfold OwnR
  rw [List.length_append, flat_append]
  exact h2

/-- What stands in the loop of the reference's Pack. -/
structure RSt (w wr : World) (tb : Nat) (inp tab : Array Value) (R O G T : Value) (all : List (List (Int × Int × Int))) (of : List Int) (go : List (List (Int × Int))) (to : List Int) : Prop where
  inp : Row wr w.heap.size 25 inp
  res : Row wr (w.heap.size + 1) 33 #[.int .i64 0, .int .i64 0, .slice none 0 0, .slice none 0 0, .slice none 0 0, .slice none 0 0]
  tab : Row wr tb 33 tab
  rows : OwnN wr w.heap.size 61 54 3 f3 R all
  ofs : OwnR wr w.heap.size 3 1 f1 O of
  gots : OwnN wr w.heap.size 62 59 2 f2 G go
  tos : OwnR wr w.heap.size 3 1 f1 T to
  ap : ∀ g, O.ownBlock = some g → T.ownBlock ≠ some g
  bel : Below w.heap.size w wr
  tbl : w.heap.size + 1 < tb

section
variable {w wr wx : World} {tb : Nat} {inp tab : Array Value} {R O G T R' O' G' T' : Value} {all all' : List (List (Int × Int × Int))} {of of' : List Int} {go go' : List (List (Int × Int))} {to to' : List Int}
theorem RSt.below (h : RSt w wr tb inp tab R O G T all of go to) (hb : Below wr.heap.size wr wx) : RSt w wx tb inp tab R O G T all of go to :=
  ⟨h.inp.below hb h.inp.lt, h.res.below hb h.res.lt, h.tab.below hb h.tab.lt, h.rows.below hb, h.ofs.below hb, h.gots.below hb, h.tos.below hb, h.ap, below_both h.bel hb h.bel.size, h.tbl⟩
theorem RSt.put (h : RSt w wr tb inp tab R O G T all of go to) (i : Nat) (u : Value) : RSt w (wr.setCell ⟨tb, i, none⟩ u) tb inp (tab.setIfInBounds i u) R O G T all of go to :=
  ⟨h.inp.far (by have := h.tbl; show w.heap.size ≠ tb; omega) u, h.res.far (by have := h.tbl; show w.heap.size + 1 ≠ tb; omega) u, h.tab.put i u, h.rows.far (grown_put _ _ _ _) h.tab (by decide) (by decide), h.ofs.far (grown_put _ _ _ _) h.tab (by decide),
    h.gots.far (grown_put _ _ _ _) h.tab (by decide) (by decide), h.tos.far (grown_put _ _ _ _) h.tab (by decide), h.ap, h.bel.setCell (by have := h.tbl; show w.heap.size ≤ tb; omega) u, h.tbl⟩
theorem RSt.addR (h : RSt w wr tb inp tab R O G T all of go to) (hN : OwnN wx w.heap.size 61 54 3 f3 R' all') (hg : wr.grownBy wx R.ownBlock) (hb : Below w.heap.size wr wx) : RSt w wx tb inp tab R' O G T all' of go to := by
  obtain ⟨us, hus⟩ := h.rows.owns
  exact ⟨grown_row hus hg h.inp (by decide), grown_row hus hg h.res (by decide), grown_row hus hg h.tab (by decide), hN, h.ofs.grown hus hg (by decide), h.gots.grown hus hg (by decide) (by decide), h.tos.grown hus hg (by decide), h.ap, h.bel.trans hb, h.tbl⟩
theorem RSt.addG (h : RSt w wr tb inp tab R O G T all of go to) (hN : OwnN wx w.heap.size 62 59 2 f2 G' go') (hg : wr.grownBy wx G.ownBlock) (hb : Below w.heap.size wr wx) : RSt w wx tb inp tab R O G' T all of go' to := by
  obtain ⟨us, hus⟩ := h.gots.owns
  exact ⟨grown_row hus hg h.inp (by decide), grown_row hus hg h.res (by decide), grown_row hus hg h.tab (by decide), h.rows.grown hus hg (by decide) (by decide), h.ofs.grown hus hg (by decide), hN, h.tos.grown hus hg (by decide), h.ap, h.bel.trans hb, h.tbl⟩
theorem RSt.addO (h : RSt w wr tb inp tab R O G T all of go to) (hO : OwnR wx w.heap.size 3 1 f1 O' of') (hg : wr.grownBy wx O.ownBlock) (hk : O'.ownBlock = O.ownBlock ∨ O'.ownBlock = some wr.heap.size) (hb : Below w.heap.size wr wx) : RSt w wx tb inp tab R O' G T all of' go to := by
  refine ⟨grown_row h.ofs hg h.inp (by decide), grown_row h.ofs hg h.res (by decide), grown_row h.ofs hg h.tab (by decide), h.rows.grown h.ofs hg (by decide) (by decide), hO, h.gots.grown h.ofs hg (by decide) (by decide), ?_, ?_, h.bel.trans hb, h.tbl⟩
  · refine World.ownsRow.kept h.tos hg ?_
    cases hv : T.ownBlock with
    | none => exact .inl rfl
    | some g => exact .inr (fun he => h.ap g he.symm hv)
  · intro g hg2
    rcases hk with hk | hk
    · exact h.ap g (hk ▸ hg2)
    · rw [hk] at hg2
      obtain rfl := Option.some.inj hg2
      intro ht
      obtain ⟨_, cs, hr⟩ := own_block h.tos ht
      exact absurd hr.lt (Nat.lt_irrefl _)
theorem RSt.addT (h : RSt w wr tb inp tab R O G T all of go to) (hT : OwnR wx w.heap.size 3 1 f1 T' to') (hg : wr.grownBy wx T.ownBlock) (hk : T'.ownBlock = T.ownBlock ∨ T'.ownBlock = some wr.heap.size) (hb : Below w.heap.size wr wx) : RSt w wx tb inp tab R O G T' all of go to' := by
  refine ⟨grown_row h.tos hg h.inp (by decide), grown_row h.tos hg h.res (by decide), grown_row h.tos hg h.tab (by decide), h.rows.grown h.tos hg (by decide) (by decide), ?_, h.gots.grown h.tos hg (by decide) (by decide), hT, ?_, h.bel.trans hb, h.tbl⟩
  · refine World.ownsRow.kept h.ofs hg ?_
    cases hv : O.ownBlock with
    | none => exact .inl rfl
    | some g => exact .inr (fun he => h.ap g hv he.symm)
  · intro g hg2
    rcases hk with hk | hk
    · rw [hk]; exact h.ap g hg2
    · rw [hk]
      intro ht
      obtain rfl := Option.some.inj ht
      obtain ⟨_, cs, hr⟩ := own_block h.ofs hg2
      exact absurd hr.lt (Nat.lt_irrefl _)
/-- A number's own block, laid since, stays where another row takes a number. -/
theorem RSt.keepO (h : RSt w wr tb inp tab R O G T all of go to) {wa w5 : World} {q : Nat} {cs : Array Value} (hg : wa.grownBy w5 O.ownBlock) (hq : wr.heap.size ≤ q) (hr : Row wa q 3 cs) : Row w5 q 3 cs := by
  refine (hg.block q hr.lt ?_).trans hr
  intro he
  obtain ⟨_, _, hr2⟩ := own_block h.ofs he.symm
  have := hr2.lt
  omega
end
end Go.Proofs.Ytfldbkioepcghaa
