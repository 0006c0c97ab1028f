/- Appends as steps of a region that draws its order; walks over the reference: a table of one's own. -/
import Derived.Test.YtfldbkioepcghaaT12
import Derived.Deep.RegionLaw
namespace Go.Proofs.Ytfldbkioepcghaa
open Go.RowKit
set_option linter.unusedVariables false

/-- append onto a row of the call's own, as a step of a region that draws its order. -/
theorem stepG {t e k bytes : Nat} (ti : TI t e k bytes) (hk : 0 < k) {w : World} {ops : Array Oper} {o : Oper} {a : Act} {K : Act → World → Prop} {Q : Exit → Act → World → Prop} {E : Prop} (base : Nat) {v : Value} {n : Nat} {xs : List Value} (hown : w.ownsRow base e k v n xs)
    {A : Option Addr} {m : Nat} {news : List Value} (hr : Elems w A (m * k) news) (h1 : ∀ u ∈ news, u.oneCell' = true)
    (hlen : n + m ≤ 1000000000) (hby : bytes ≤ 100) (hbase : base ≤ w.heap.size) (hgd : o.guard = none) (s x : Operand)
    (ho : o.op = .call { callee := .builtin .append, args := #[s, x], argTypes := #[t, t] }) (hs : a.eval s = v) (c : Nat) (hx : a.eval x = .slice A m c)
    (h : ∀ A2 c2 w', w'.ownsRow base e k (.slice A2 (n + m) c2) (n + m) (xs ++ news) → Below base w w' → w.grownBy w' v.ownBlock → K (a.put o.dst (.slice A2 (n + m) c2)) w') :
    if Region.wanted o (yielded ops a.tmps) = true then Oper.wp Try.prog o a w K Q else E := by
  have hw : Region.wanted o (yielded ops a.tmps) = true := by simp [Region.wanted, hgd]
  rw [if_pos hw]
  obtain ⟨i, z, ht, hi, hz, hsize, hb, hzs⟩ := ti.all
  have hl : news.length = m * k := hr.1
  have key : ∃ v' w', (Builtin.append_ #[t, t] o.type #[v, .slice A m c]).run Try.prog w = .ok v' w' ∧ w'.ownsRow base e k v' (n + m) (xs ++ news) ∧ w.grownBy w' v.ownBlock := by
    by_cases hm : m = 0
    · subst hm
      have hn : news = [] := List.eq_nil_of_length_eq_zero (by simpa using hl)
      subst hn
      refine ⟨v, w, ?_, by simpa using hown, rfl, rfl, rfl, Nat.le_refl _, fun _ _ _ => rfl⟩
      rcases hown.2 with ⟨rfl, rfl⟩ | ⟨g, cap, cur, rfl, _, _, hnc, _⟩
      · cases A <;> simp [Builtin.append_, run_underlying ht, sizeOf, typeInfo, hi, Builtin.lenOf, Builtin.firstCells, loadCells, loadCellsFrom]
      · cases A <;> simp [Builtin.append_, run_underlying ht, sizeOf, typeInfo, hi, Builtin.lenOf, Builtin.firstCells, hnc, storeCells, loadCells, loadCellsFrom]
    · obtain ⟨b, o', rfl, hc⟩ := hr.2 (Nat.mul_pos (by omega) hk)
      have h7 : (n + m) * bytes ≤ 1000000000 * 100 := Nat.mul_le_mul hlen hby
      obtain ⟨v', w', hrun, h2, h3, _, _⟩ := run_append_own_at (P := Try.prog) w base t o.type e i z k bytes ht hi hz hsize hb hzs hk v n xs hown ⟨b, o', none⟩ m c news hl
        (fun j u hu => by rw [Addr.add_lit']; exact hc j u hu) h1 (by unfold maxLen; omega) (by omega) hbase
      exact ⟨v', w', hrun, h2, h3⟩
  obtain ⟨v', w', hrun, h2, h3⟩ := key
  obtain ⟨A2, c2, rfl, _⟩ := own_slice h2
  unfold Oper.wp execOp
  simp only [ho, resolve, invoke, builtin, Sem.run_bind, Sem.run_pure, Result.andThen_ok, List.map_toArray, List.map_cons, List.map_nil, hs, hx, hrun]
  exact h A2 c2 w' h2 ((Below.refl _ _).grown h3 hbase fun k hk => (own_block hown hk).1) h3
theorem stepR {α : Type} {f : α → List Value} {t e k bytes : Nat} (ti : TI t e k bytes) (hk : 0 < k) (hf : ∀ x, ∀ u ∈ f x, u.oneCell' = true) {w : World} {ops : Array Oper} {o : Oper} {a : Act} {K : Act → World → Prop} {Q : Exit → Act → World → Prop} {E : Prop} (base : Nat) {v : Value} {l : List α} (hown : OwnR w base e k f v l)
    {A : Option Addr} {m : Nat} {news : List α} (hr : In w k f A m news)
    (hlen : l.length + m ≤ 1000000000) (hby : bytes ≤ 100) (hbase : base ≤ w.heap.size) (hgd : o.guard = none) (s x : Operand)
    (ho : o.op = .call { callee := .builtin .append, args := #[s, x], argTypes := #[t, t] }) (hs : a.eval s = v) (c : Nat) (hx : a.eval x = .slice A m c)
    (h : ∀ A2 c2 w', OwnR w' base e k f (.slice A2 (l.length + m) c2) (l ++ news) → Below base w w' → w.grownBy w' v.ownBlock → K (a.put o.dst (.slice A2 (l.length + m) c2)) w') :
    if Region.wanted o (yielded ops a.tmps) = true then Oper.wp Try.prog o a w K Q else E := by
  refine stepG ti hk base hown hr.2 (fun u hu => by obtain ⟨y, _, hy⟩ := List.mem_flatMap.1 hu; exact hf y u hy) hlen hby hbase hgd s x ho hs c hx fun A2 c2 w' h1 h2 h3 => h A2 c2 w' ?_ h2 h3
  unfold OwnR
  rw [List.length_append, flat_append, hr.1]
  exact h1
theorem stepN {α : Type} {f : α → List Value} {t eo ei k bytes : Nat} (ti : TI t eo 1 bytes) (hne : eo ≠ ei) {w : World} {ops : Array Oper} {o : Oper} {a : Act} {K : Act → World → Prop} {Q : Exit → Act → World → Prop} {E : Prop} (base : Nat) {v : Value} {ll : List (List α)} (hown : OwnN w base eo ei k f v ll)
    {g : Nat} {x : List α} {A' : Option Addr} {c' : Nat} (hr : Row w g eo #[.slice A' x.length c']) (hx' : InT w ei k f A' c' x)
    (hlen : ll.length ≤ 1000000) (hby : bytes ≤ 100) (hbase : base ≤ w.heap.size) (hgd : o.guard = none) (s y : Operand)
    (ho : o.op = .call { callee := .builtin .append, args := #[s, y], argTypes := #[t, t] }) (hs : a.eval s = v) (hx : a.eval y = .slice (some ⟨g, 0, none⟩) 1 1)
    (h : ∀ A2 c2 w', OwnN w' base eo ei k f (.slice A2 (ll.length + 1) c2) (ll ++ [x]) → Below base w w' → (∀ p t cs, Row w p t cs → t ≠ eo → Row w' p t cs) → w.grownBy w' v.ownBlock → K (a.put o.dst (.slice A2 (ll.length + 1) c2)) w') :
    if Region.wanted o (yielded ops a.tmps) = true then Oper.wp Try.prog o a w K Q else E := by
  obtain ⟨us, h1, h2⟩ := hown
  refine stepG ti (by omega) base h1 (A := some ⟨g, 0, none⟩) (m := 1) (news := [.slice A' x.length c']) ⟨rfl, fun _ => ⟨g, 0, rfl, fun j u hu => by rw [Nat.zero_add, hr.cell j]; simpa using hu⟩⟩ (by intro u hu; simp at hu; subst hu; rfl) (by omega) hby hbase hgd s y ho hs 1 hx fun A2 c2 w' h3 h4 h5 => h A2 c2 w' ?_ h4 (fun p t cs hp ht => grown_row h1 h5 hp ht) h5
  refine OwnN.snoc h2 (by have := h1.1; omega) hx' h3 h5 fun k hk cs fz hh => ?_
  obtain ⟨_, cs', h6⟩ := own_block h1 hk
  exact hne (h6.ty hh)

set_option maxRecDepth 100000 in
theorem rcopy_any (A : Option Addr) (n c : Nat) (l : List Int) (w : World) (h : In w 1 f1 A n l) (hn : n ≤ 1000000) :
    Calls Try.prog 25 #[.slice A n c] w (PackPost w 3 1 f1 l) := by
  have H := h.below (below_alloc w (.cells #[] 3))
  have hE := OwnR.empty w 3 1 f1
  clear h
  go_enter Try.func25, Try.ntmps25
  go_wp2_with (at_builtin; refine appR ti30 (by omega) one1 w.heap.size hE H (by simp only [List.length_nil]; omega) (by omega) (by simp) rfl _ _ rfl rfl c rfl ?_)
  intro A2 c2 w2 hown hbel hgr
  have hb := (below_alloc w (.cells #[] 3)).trans hbel
  go_wp2_with fail
  go_ret
  exact ⟨_, rfl, by simpa using hown, hb⟩
end Go.Proofs.Ytfldbkioepcghaa
