/- Words and small laws that the walks of this seat share: slices that read as lists, rows of rows, what a call owns. -/
import Derived.Test.YtfldbkioepcghaaRows
import Derived.WalkKit
import Derived.WalkLawsBesides
import Derived.WalkSpells
import Derived.Maps.AppendAt
namespace Go.Proofs.Ytfldbkioepcghaa
open Go.RowKit
set_option linter.unusedVariables false

theorem hide {p : Prop} (h : p) : Hid p := h

/-! A slice that reads as a list of one-cell values. -/
def Elems (w : World) (A : Option Addr) (n : Nat) (xs : List Value) : Prop :=
  xs.length = n ∧ (0 < n → ∃ b o, A = some ⟨b, o, none⟩ ∧ ∀ j u, xs[j]? = some u → w.cell? ⟨b, o + j, none⟩ = some u)

theorem cell_lt {w : World} {a : Addr} {u : Value} (h : w.cell? a = some u) : a.block < w.heap.size := World.block_lt_of_cell? w a h

section
variable {w w' : World} {A : Option Addr} {n : Nat} {xs : List Value}

theorem Elems.keep (h : Elems w A n xs) (hk : ∀ p : Addr, p.block < w.heap.size → w'.cell? p = w.cell? p) : Elems w' A n xs :=
  ⟨h.1, fun hn => by
    obtain ⟨b, o, e, hc⟩ := h.2 hn
    exact ⟨b, o, e, fun j u hu => by
      have h1 := hc j u hu
      rw [hk _ (cell_lt h1)]; exact h1⟩⟩

theorem Elems.below (h : Elems w A n xs) (hb : Below w.heap.size w w') : Elems w' A n xs := h.keep fun _ hp => hb.cell hp

theorem Elems.at_ (h : Elems w A n xs) {k : Nat} (hk : k < n) : ∃ b o u, A = some ⟨b, o, none⟩ ∧ xs[k]? = some u ∧ w.cell? ⟨b, o + k, none⟩ = some u := by
  obtain ⟨b, o, e, hc⟩ := h.2 (by omega)
  have hl : k < xs.length := by have := h.1; omega
  exact ⟨b, o, xs[k], e, List.getElem?_eq_getElem hl, hc k _ (List.getElem?_eq_getElem hl)⟩

theorem Elems.nil (w : World) (A : Option Addr) : Elems w A 0 [] := ⟨rfl, fun h => absurd h (by omega)⟩

theorem Elems.of_own {base : Nat} {e : TypeId} {c : Nat} (h : w.ownsRow base e 1 (.slice A n c) n xs) : Elems w A n xs := by
  refine ⟨by simpa using h.1, fun hn => ?_⟩
  have hl := h.1
  rcases h.2 with ⟨_, h0⟩ | ⟨g, cap, cur, hv, _, hg, hcap, _, hcs, htake⟩
  · omega
  · injection hv with hA
    subst hA
    refine ⟨g, 0, rfl, fun j u hu => ?_⟩
    rw [Nat.zero_add, cell_of_row w g j cur e (0, 0) hg]
    rw [← htake, List.getElem?_take] at hu
    split at hu
    · simpa using hu
    · cases hu
end

/-! A block that is known whole. -/
def Row (w : World) (g : Nat) (t : TypeId) (cs : Array Value) : Prop := w.heap[g]? = some (.cells cs t (0, 0))

section
variable {w w' : World} {g : Nat} {t : TypeId} {cs : Array Value}
theorem Row.lt (h : Row w g t cs) : g < w.heap.size := by
  rcases Nat.lt_or_ge g w.heap.size with hlt | hge
  · exact hlt
  · unfold Row at h; rw [Array.getElem?_eq_none hge] at h; cases h
theorem Row.cell (h : Row w g t cs) (i : Nat) : w.cell? ⟨g, i, none⟩ = cs[i]? := cell_of_row w g i cs t (0, 0) h
theorem Row.frozen (h : Row w g t cs) (i : Nat) : w.frozen? ⟨g, i, none⟩ = false := by
  unfold Row at h
  simp [World.frozen?, h]
theorem Row.new (w : World) (t : TypeId) (cs : Array Value) : Row (w.alloc (.cells cs t)) w.heap.size t cs := heap_alloc_new w _
theorem Row.alloc (h : Row w g t cs) (o : Obj) : Row (w.alloc o) g t cs := (Below.heap_alloc w o g h.lt).trans h
theorem Row.put (h : Row w g t cs) (i : Nat) (u : Value) : Row (w.setCell ⟨g, i, none⟩ u) g t (cs.setIfInBounds i u) := by
  unfold Row at h ⊢
  simp [World.setCell, Array.getElem?_modify, h]
theorem Row.far (h : Row w g t cs) {p : Addr} (hp : g ≠ p.block) (u : Value) : Row (w.setCell p u) g t cs := (Below.heap_setCell w p u g hp).trans h
theorem Row.below {B : Nat} (h : Row w g t cs) (hb : Below B w w') (hg : g < B) : Row w' g t cs := (hb.block g hg).trans h
end

theorem below_both {B : Nat} {a b c : World} (h : Below B a b) (k : Below b.heap.size b c) (hB : B ≤ b.heap.size) : Below B a c := h.trans (k.mono hB)

/-! What a call owns. -/
section
variable {w w' : World} {base base' : Nat} {e : TypeId} {size n : Nat} {v : Value} {xs : List Value}
theorem own_below (h : w.ownsRow base e size v n xs) (hb : Below w.heap.size w w') : w'.ownsRow base e size v n xs := by
  refine ⟨h.1, ?_⟩
  rcases h.2 with h2 | ⟨g, cap, cur, hv, hg, hh, r⟩
  · exact Or.inl h2
  · exact Or.inr ⟨g, cap, cur, hv, hg, (hb.block g (Array.getElem?_eq_some_iff.1 hh).1).trans hh, r⟩
theorem own_mono (h : w.ownsRow base e size v n xs) (hb : base' ≤ base) : w.ownsRow base' e size v n xs := by
  refine ⟨h.1, ?_⟩
  rcases h.2 with h2 | ⟨g, cap, cur, hv, hg, r⟩
  · exact Or.inl h2
  · exact Or.inr ⟨g, cap, cur, hv, by omega, r⟩
/-- The value that a call owns is a slice. -/
theorem own_form (h : w.ownsRow base e 1 v n xs) : ∃ A c, v = .slice A n c ∧ Elems w A n xs ∧ n ≤ c ∧ c ≤ maxLen := by
  rcases h.2 with ⟨rfl, rfl⟩ | ⟨g, cap, cur, rfl, hg, hh, h1, h2, r⟩
  · exact ⟨none, 0, rfl, Elems.of_own h, Nat.le_refl _, by unfold maxLen; omega⟩
  · exact ⟨_, cap, rfl, Elems.of_own h, h1, h2⟩
end

theorem Addr.add_lit' (b o j : Nat) : (⟨b, o, none⟩ : Addr).add j = ⟨b, o + j, none⟩ := by unfold Addr.add; split <;> simp_all

/-- A block that has just been laid, read as a slice from its head on. -/
theorem Elems.new (w : World) (cs : List Value) (e : TypeId) (n : Nat) (hn : cs.length = n) : Elems (w.alloc (.cells cs.toArray e)) (some ⟨w.heap.size, 0, none⟩) n cs :=
  ⟨hn, fun _ => ⟨_, _, rfl, fun j u hu => by
    rw [Nat.zero_add, cell_of_row _ w.heap.size j cs.toArray e (0, 0) (heap_alloc_new w _)]
    simpa using hu⟩⟩

section
variable {P : Program} (w : World)

/-- append onto a row of the call's own, the source read as a list of cells (k: how many cells it has). -/
theorem run_app (base : Nat) (t ty e : TypeId) (i : TypeInfo) (z : Value) (size bytes : Nat) (ht : P.underlying t = some (.slice e)) (hi : P.info? e = some i) (hz : i.zero = some z)
    (hsize : i.size = size) (hby : i.bytes = bytes) (hzs : z.cells.size = size) (hsz : 0 < size)
    (v : Value) (n : Nat) (xs : List Value) (hown : w.ownsRow base e size v n xs)
    (A : Option Addr) (m c : Nat) (news : List Value) (hr : Elems w A (m * size) news) (h1 : ∀ u ∈ news, u.oneCell' = true)
    (h63 : n + m ≤ maxLen) (hbytes : (n + m) * bytes ≤ 140737488355328) (hbase : base ≤ w.heap.size) :
    ∃ v' w', (Builtin.append_ #[t, t] ty #[v, .slice A m c]).run P w = .ok v' w' ∧ w'.ownsRow base e size v' (n + m) (xs ++ news) ∧ Below base w w' := by
  have hl : news.length = m * size := hr.1
  by_cases hm : m = 0
  · subst hm
    have hn : news = [] := List.eq_nil_of_length_eq_zero (by simpa using hl)
    subst hn
    refine ⟨v, w, ?_, by simpa using hown, Below.refl _ _⟩
    rcases hown.2 with ⟨rfl, rfl⟩ | ⟨g, cap, cur, rfl, _, _, hnc, _⟩
    · cases A <;> simp [Builtin.append_, run_underlying ht, sizeOf, typeInfo, hi, Builtin.lenOf, Builtin.firstCells, loadCells, loadCellsFrom]
    · cases A <;> simp [Builtin.append_, run_underlying ht, sizeOf, typeInfo, hi, Builtin.lenOf, Builtin.firstCells, hnc, storeCells, loadCells, loadCellsFrom]
  · obtain ⟨b, o, rfl, hc⟩ := hr.2 (Nat.mul_pos (by omega) hsz)
    obtain ⟨v', w', hrun, h2, h3, _, _⟩ := run_append_own_at (P := P) w base t ty e i z size bytes ht hi hz hsize hby hzs hsz v n xs hown ⟨b, o, none⟩ m c news hl
      (fun j u hu => by rw [Addr.add_lit']; exact hc j u hu) h1 h63 hbytes hbase
    exact ⟨v', w', hrun, h2, (Below.refl _ _).grown h3 hbase fun k hk => (hown.lt k hk).1⟩

theorem wpList_app {ops : Array Oper} {rest : List Oper} {o : Oper} {a : Act} {Q : Exit → Act → World → Prop} (hgd : o.guard = none) (s x : Operand) (t : TypeId)
    (ho : o.op = .call { callee := .builtin .append, args := #[s, x], argTypes := #[t, t] })
    (base : Nat) (e : TypeId) (i : TypeInfo) (z : Value) (size bytes : Nat) (ht : P.underlying t = some (.slice e)) (hi : P.info? e = some i) (hz : i.zero = some z)
    (hsize : i.size = size) (hby : i.bytes = bytes) (hzs : z.cells.size = size) (hsz : 0 < size)
    (v : Value) (n : Nat) (xs : List Value) (hs : a.eval s = v) (hown : w.ownsRow base e size v n xs)
    (A : Option Addr) (m c : Nat) (news : List Value) (hx : a.eval x = .slice A m c) (hr : Elems w A (m * size) news) (h1 : ∀ u ∈ news, u.oneCell' = true)
    (h63 : n + m ≤ maxLen) (hbytes : (n + m) * bytes ≤ 140737488355328) (hbase : base ≤ w.heap.size)
    (h : ∀ v' w', w'.ownsRow base e size v' (n + m) (xs ++ news) → Below base w w' → wpList P ops Q rest (a.put o.dst v') w') : wpList P ops Q (o :: rest) a w :=
  wpList_plain hgd fun K hK => by
    obtain ⟨v', w', hrun, h2, h3⟩ := run_app (P := P) w base t o.type e i z size bytes ht hi hz hsize hby hzs hsz v n xs hown A m c news hr h1 h63 hbytes hbase
    unfold Oper.wp execOp
    simp only [ho, resolve, invoke, builtin, Sem.run_bind, Sem.run_pure, Result.andThen_ok, List.map_toArray, List.map_cons, List.map_nil, hs, hx, hrun]
    exact hK _ _ (h v' w' h2 h3)
end

theorem below_alloc (w : World) (o : Obj) : Below w.heap.size w (w.alloc o) := (Below.refl _ _).alloc (Nat.le_refl _) _

theorem below_drewN' {B : Nat} {a w : World} (h : Below B a w) (n : Nat) : Below B a (w.drewN n) := ⟨h.os, h.tape, h.output, h.size, h.block⟩

/-! Rows of elements of k cells each. -/
def flat {α : Type} (f : α → List Value) (l : List α) : List Value := l.flatMap f
def f1 (x : Int) : List Value := [.int .i64 x]
def f2 (x : Int × Int) : List Value := [.int .i64 x.1, .int .i64 x.2]
def f3 (x : Int × Int × Int) : List Value := [.int .i64 x.1, .int .i64 x.2.1, .int .i64 x.2.2]

section
variable {α : Type} {f : α → List Value} {k : Nat}
theorem flat_append (a b : List α) : flat f (a ++ b) = flat f a ++ flat f b := List.flatMap_append
theorem flat_one (x : α) : flat f [x] = f x := by simp [flat]
theorem flat_len (hk : ∀ x, (f x).length = k) : ∀ l : List α, (flat f l).length = l.length * k
  | [] => by simp [flat]
  | x :: l => by
    have := flat_len hk l
    simp only [flat, List.flatMap_cons, List.length_append, hk, List.length_cons] at this ⊢
    rw [this, Nat.add_mul]; omega
theorem flat_get (hk : ∀ x, (f x).length = k) : ∀ {l : List α} {j : Nat} {x : α}, l[j]? = some x → ∀ i, i < k → (flat f l)[j * k + i]? = (f x)[i]?
  | [], j, x, h, i, hi => by simp at h
  | y :: l, 0, x, h, i, hi => by
    obtain rfl : y = x := by simpa using h
    rw [Nat.zero_mul, Nat.zero_add]
    show (f y ++ flat f l)[i]? = _
    rw [List.getElem?_append_left (by rw [hk]; exact hi)]
  | y :: l, j + 1, x, h, i, hi => by
    have h' : l[j]? = some x := by simpa using h
    have := flat_get hk h' i hi
    show (f y ++ flat f l)[(j + 1) * k + i]? = _
    rw [Nat.add_mul, List.getElem?_append_right (by rw [hk]; omega), hk, show j * k + 1 * k + i - k = j * k + i by omega]
    exact this
end

/-- A slice whose elements have k cells. -/
def In {α : Type} (w : World) (k : Nat) (f : α → List Value) (A : Option Addr) (n : Nat) (l : List α) : Prop := l.length = n ∧ Elems w A (n * k) (flat f l)

section
variable {α : Type} {f : α → List Value} {k : Nat} {w w' : World} {A : Option Addr} {n : Nat} {l : List α}
theorem In.keep (h : In w k f A n l) (hk : ∀ p : Addr, p.block < w.heap.size → w'.cell? p = w.cell? p) : In w' k f A n l := ⟨h.1, h.2.keep hk⟩
theorem In.below (h : In w k f A n l) (hb : Below w.heap.size w w') : In w' k f A n l := ⟨h.1, h.2.below hb⟩
theorem In.nil (w : World) (A : Option Addr) : In w k f A 0 [] := ⟨rfl, by rw [Nat.zero_mul]; exact Elems.nil _ _⟩
theorem In.cells (hk : ∀ x, (f x).length = k) (hk0 : 0 < k) (h : In w k f A n l) {j : Nat} (hj : j < n) : ∃ b o x, A = some ⟨b, o, none⟩ ∧ l[j]? = some x ∧ ∀ i u, (f x)[i]? = some u → w.cell? ⟨b, o + j * k + i, none⟩ = some u := by
  obtain ⟨b, o, e, hc⟩ := h.2.2 (Nat.mul_pos (by omega) hk0)
  have hl : j < l.length := by have := h.1; omega
  refine ⟨b, o, l[j], e, List.getElem?_eq_getElem hl, fun i u hu => ?_⟩
  have hi : i < k := by
    have := (List.getElem?_eq_some_iff.1 hu).1
    rwa [hk] at this
  rw [Nat.add_assoc]
  exact hc _ _ ((flat_get hk (List.getElem?_eq_getElem hl) i hi).trans hu)
end
theorem k1 (x : Int) : (f1 x).length = 1 := rfl
theorem k2 (x : Int × Int) : (f2 x).length = 2 := rfl
theorem k3 (x : Int × Int × Int) : (f3 x).length = 3 := rfl
section
variable {w w' : World} {A : Option Addr} {n : Nat}
theorem In.at1 {l : List Int} (h : In w 1 f1 A n l) {j : Nat} (hj : j < n) : ∃ b o x, A = some ⟨b, o, none⟩ ∧ l[j]? = some x ∧ w.cell? ⟨b, o + j, none⟩ = some (.int .i64 x) := by
  obtain ⟨b, o, x, e, hx, hc⟩ := h.cells k1 (by omega) hj
  exact ⟨b, o, x, e, hx, by have := hc 0 _ rfl; rwa [Nat.mul_one] at this⟩
theorem In.at2 {l : List (Int × Int)} (h : In w 2 f2 A n l) {j : Nat} (hj : j < n) : ∃ b o x, A = some ⟨b, o, none⟩ ∧ l[j]? = some x ∧ w.cell? ⟨b, o + j * 2, none⟩ = some (.int .i64 x.1) ∧ w.cell? ⟨b, o + j * 2 + 1, none⟩ = some (.int .i64 x.2) := by
  obtain ⟨b, o, x, e, hx, hc⟩ := h.cells k2 (by omega) hj
  exact ⟨b, o, x, e, hx, hc 0 _ rfl, hc 1 _ rfl⟩
theorem In.at3 {l : List (Int × Int × Int)} (h : In w 3 f3 A n l) {j : Nat} (hj : j < n) : ∃ b o x, A = some ⟨b, o, none⟩ ∧ l[j]? = some x ∧ w.cell? ⟨b, o + j * 3, none⟩ = some (.int .i64 x.1) ∧ w.cell? ⟨b, o + j * 3 + 1, none⟩ = some (.int .i64 x.2.1) ∧ w.cell? ⟨b, o + j * 3 + 2, none⟩ = some (.int .i64 x.2.2) := by
  obtain ⟨b, o, x, e, hx, hc⟩ := h.cells k3 (by omega) hj
  exact ⟨b, o, x, e, hx, hc 0 _ rfl, hc 1 _ rfl, hc 2 _ rfl⟩
end

/-- A slice of slices. -/
def Nest {α : Type} (w : World) (k : Nat) (f : α → List Value) (A : Option Addr) (n : Nat) (ll : List (List α)) : Prop :=
  ll.length = n ∧ (0 < n → ∃ b o, A = some ⟨b, o, none⟩ ∧ ∀ (j : Nat) (row : List α), ll[j]? = some row → ∃ A' c', w.cell? ⟨b, o + j, none⟩ = some (.slice A' row.length c') ∧ In w k f A' row.length row ∧ row.length ≤ c' ∧ c' ≤ 9223372036854775807)
section
variable {α : Type} {f : α → List Value} {k : Nat} {w w' : World} {A : Option Addr} {n : Nat} {ll : List (List α)}
theorem Nest.below (h : Nest w k f A n ll) (hb : Below w.heap.size w w') : Nest w' k f A n ll :=
  ⟨h.1, fun hn => by
    obtain ⟨b, o, e, hc⟩ := h.2 hn
    refine ⟨b, o, e, fun j row hr => ?_⟩
    obtain ⟨A', c', h1, h2, h3⟩ := hc j row hr
    exact ⟨A', c', (hb.cell (cell_lt h1)).trans h1, h2.below hb, h3⟩⟩
theorem Nest.nil (w : World) (A : Option Addr) : Nest w k f A 0 [] := ⟨rfl, fun h => absurd h (by omega)⟩
theorem Nest.at_ (h : Nest w k f A n ll) {j : Nat} (hj : j < n) : ∃ b o row A' c', A = some ⟨b, o, none⟩ ∧ ll[j]? = some row ∧ w.cell? ⟨b, o + j, none⟩ = some (.slice A' row.length c') ∧ In w k f A' row.length row ∧ row.length ≤ c' ∧ c' ≤ 9223372036854775807 := by
  obtain ⟨b, o, e, hc⟩ := h.2 (by omega)
  have hl : j < ll.length := by have := h.1; omega
  obtain ⟨A', c', h1⟩ := hc j _ (List.getElem?_eq_getElem hl)
  exact ⟨b, o, ll[j], A', c', e, List.getElem?_eq_getElem hl, h1⟩
end

/-! Types: a slice's, its element's, how many cells and bytes an element has. -/
structure TI (t e k bytes : Nat) : Prop where
  all : ∃ i z, Try.prog.underlying t = some (.slice e) ∧ Try.prog.info? e = some i ∧ i.zero = some z ∧ i.size = k ∧ i.bytes = bytes ∧ z.cells.size = k
theorem ti_of {t e k bytes : Nat} {z : Value} (ht : Try.prog.underlying t = some (.slice e)) (h : (Try.prog.info? e).map (fun i => (i.zero, i.size, i.bytes)) = some (some z, k, bytes)) (hz : z.cells.size = k) : TI t e k bytes := by
  obtain ⟨i0, hi, hz0, hz1, hz2⟩ := info_parts h
  exact ⟨i0, z, ht, hi, hz0, hz1, hz2, hz⟩
theorem ti30 : TI 30 3 1 8 := ti_of (z := .int .i64 0) Try.underlying30 (by kernel_rfl) (by simp [Value.cells])
theorem ti47 : TI 47 43 2 16 := ti_of (z := .agg #[.int .i64 0, .int .i64 0]) Try.underlying47 (by kernel_rfl) (by simp [Value.cells])
theorem ti61 : TI 61 54 3 24 := ti_of (z := .agg #[.int .i64 0, .int .i64 0, .int .i64 0]) Try.underlying61 (by kernel_rfl) (by simp [Value.cells])
theorem ti62 : TI 62 59 2 16 := ti_of (z := .agg #[.int .i64 0, .int .i64 0]) Try.underlying62 (by kernel_rfl) (by simp [Value.cells])
theorem ti22 : TI 22 47 1 24 := ti_of (z := .slice none 0 0) Try.underlying22 (by kernel_rfl) (by simp [Value.cells])
theorem ti23 : TI 23 30 1 24 := ti_of (z := .slice none 0 0) Try.underlying23 (by kernel_rfl) (by simp [Value.cells])
theorem ti29 : TI 29 61 1 24 := ti_of (z := .slice none 0 0) Try.underlying29 (by kernel_rfl) (by simp [Value.cells])
theorem ti31 : TI 31 62 1 24 := ti_of (z := .slice none 0 0) Try.underlying31 (by kernel_rfl) (by simp [Value.cells])

theorem own_block {w : World} {base : Nat} {e : TypeId} {size n : Nat} {v : Value} {xs : List Value} (h : w.ownsRow base e size v n xs) {k : Nat} (hk : v.ownBlock = some k) : base ≤ k ∧ ∃ cs, Row w k e cs := by
  rcases h.2 with ⟨rfl, _⟩ | ⟨g, cap, cur, rfl, hg, hh, _⟩
  · simp [Value.ownBlock] at hk
  · simp [Value.ownBlock] at hk
    subst hk
    exact ⟨hg, _, hh⟩
theorem own_slice {w : World} {base : Nat} {e : TypeId} {size n : Nat} {v : Value} {xs : List Value} (h : w.ownsRow base e size v n xs) : ∃ A c, v = .slice A n c ∧ n ≤ c ∧ c ≤ 9223372036854775807 := by
  rcases h.2 with ⟨h1, h2⟩ | ⟨g, cap, cur, h1, _, _, h3, h4, _⟩
  · exact ⟨none, 0, by rw [h1, h2], by omega, by omega⟩
  · exact ⟨_, _, h1, h3, by unfold maxLen at h4; omega⟩
theorem Row.ty {w : World} {g : Nat} {t t' : TypeId} {cs : Array Value} {cs' : Array Value} {fz : Nat × Nat} (h : Row w g t cs) (h' : w.heap[g]? = some (.cells cs' t' fz)) : t = t' := by
  unfold Row at h
  rw [h] at h'
  injection h' with h'
  injection h' with _ h2 _

/-- append onto a row of the call's own: rows of other types stay. -/
theorem appG {t e k bytes : Nat} (ti : TI t e k bytes) (hk : 0 < k) {w : World} {ops : Array Oper} {rest : List Oper} {o : Oper} {a : Act} {Q : Exit → Act → World → Prop} (base : Nat) {v : Value} {n : Nat} {xs : List Value} (hown : w.ownsRow base e k v n xs)
    {A : Option Addr} {m : Nat} {news : List Value} (hr : Elems w A (m * k) news) (h1 : ∀ u ∈ news, u.oneCell' = true)
    (hlen : n + m ≤ 1000000000) (hby : bytes ≤ 100) (hbase : base ≤ w.heap.size) (hgd : o.guard = none) (s x : Operand)
    (ho : o.op = .call { callee := .builtin .append, args := #[s, x], argTypes := #[t, t] }) (hs : a.eval s = v) (c : Nat) (hx : a.eval x = .slice A m c)
    (h : ∀ A2 c2 w', w'.ownsRow base e k (.slice A2 (n + m) c2) (n + m) (xs ++ news) → Below base w w' → w.grownBy w' v.ownBlock → wpList Try.prog ops Q rest (a.put o.dst (.slice A2 (n + m) c2)) w') : wpList Try.prog ops Q (o :: rest) a w := by
  obtain ⟨i, z, ht, hi, hz, hsize, hb, hzs⟩ := ti.all
  have hl : news.length = m * k := hr.1
  refine wpList_plain hgd fun K hK => ?_
  have key : ∃ v' w', (Builtin.append_ #[t, t] o.type #[v, .slice A m c]).run Try.prog w = .ok v' w' ∧ w'.ownsRow base e k v' (n + m) (xs ++ news) ∧ w.grownBy w' v.ownBlock := by
    by_cases hm : m = 0
    · subst hm
      have hn : news = [] := List.eq_nil_of_length_eq_zero (by simpa using hl)
      subst hn
      refine ⟨v, w, ?_, by simpa using hown, rfl, rfl, rfl, Nat.le_refl _, fun _ _ _ => rfl⟩
      rcases hown.2 with ⟨rfl, rfl⟩ | ⟨g, cap, cur, rfl, _, _, hnc, _⟩
      · cases A <;> simp [Builtin.append_, run_underlying ht, sizeOf, typeInfo, hi, Builtin.lenOf, Builtin.firstCells, loadCells, loadCellsFrom]
      · cases A <;> simp [Builtin.append_, run_underlying ht, sizeOf, typeInfo, hi, Builtin.lenOf, Builtin.firstCells, hnc, storeCells, loadCells, loadCellsFrom]
    · obtain ⟨b, o', rfl, hc⟩ := hr.2 (Nat.mul_pos (by omega) hk)
      have h7 : (n + m) * bytes ≤ 1000000000 * 100 := Nat.mul_le_mul hlen hby
      obtain ⟨v', w', hrun, h2, h3, _, _⟩ := run_append_own_at (P := Try.prog) w base t o.type e i z k bytes ht hi hz hsize hb hzs hk v n xs hown ⟨b, o', none⟩ m c news hl
        (fun j u hu => by rw [Addr.add_lit']; exact hc j u hu) h1 (by unfold maxLen; omega) (by omega) hbase
      exact ⟨v', w', hrun, h2, h3⟩
  obtain ⟨v', w', hrun, h2, h3⟩ := key
  obtain ⟨A2, c2, rfl, _⟩ := own_slice h2
  unfold Oper.wp execOp
  simp only [ho, resolve, invoke, builtin, Sem.run_bind, Sem.run_pure, Result.andThen_ok, List.map_toArray, List.map_cons, List.map_nil, hs, hx, hrun]
  exact hK _ _ (h A2 c2 w' h2 ((Below.refl _ _).grown h3 hbase fun k hk => (own_block hown hk).1) h3)

theorem grown_row {w w' : World} {base : Nat} {e : TypeId} {size n : Nat} {v : Value} {xs : List Value} (hown : w.ownsRow base e size v n xs) (h : w.grownBy w' v.ownBlock) {p : Nat} {t : TypeId} {cs : Array Value} (hp : Row w p t cs) (ht : t ≠ e) : Row w' p t cs := by
  refine (h.block p hp.lt fun hk => ?_).trans hp
  obtain ⟨_, cs', h66⟩ := own_block hown hk.symm
  exact ht (hp.ty h66)

/-- A row of the call's own, of elements of k cells. -/
def OwnR {α : Type} (w : World) (base e k : Nat) (f : α → List Value) (v : Value) (l : List α) : Prop := w.ownsRow base e k v l.length (flat f l)
section
variable {α : Type} {f : α → List Value} {k e base base' : Nat} {w w' : World} {v : Value} {l : List α}
theorem OwnR.below (h : OwnR w base e k f v l) (hb : Below w.heap.size w w') : OwnR w' base e k f v l := own_below h hb
theorem OwnR.mono (h : OwnR w base e k f v l) (hb : base' ≤ base) : OwnR w base' e k f v l := own_mono h hb
theorem OwnR.nil (w : World) (base e k : Nat) (f : α → List Value) : OwnR w base e k f (.slice none 0 0) [] := World.ownsRow_nil w base e k
theorem OwnR.empty (w : World) (e k : Nat) (f : α → List Value) : OwnR (w.alloc (.cells #[] e)) w.heap.size e k f (.slice (some ⟨w.heap.size, 0, none⟩) 0 0) [] := World.ownsRow_made w #[] 0 (Nat.le_refl _) (Nat.zero_le _) (by simp)
theorem OwnR.form (h : OwnR w base e k f v l) : ∃ A c, v = .slice A l.length c ∧ In w k f A l.length l ∧ l.length ≤ c ∧ c ≤ 9223372036854775807 ∧ ∀ a, A = some a → base ≤ a.block ∧ ∃ cs, Row w a.block e cs := by
  rcases h.2 with ⟨h1, h2⟩ | ⟨g, cap, cur, h1, h2, hg, h3, h4, hcs, htake⟩
  · have : l = [] := List.eq_nil_of_length_eq_zero h2
    subst this
    exact ⟨none, 0, h1, In.nil _ _, Nat.le_refl _, by omega, fun a ha => by cases ha⟩
  · refine ⟨_, cap, h1, ⟨rfl, h.1, fun _ => ⟨g, 0, rfl, fun j u hu => ?_⟩⟩, h3, by unfold maxLen at h4; omega, fun a ha => by cases ha; exact ⟨h2, _, hg⟩⟩
    rw [Nat.zero_add, cell_of_row w g j cur e (0, 0) hg]
    rw [← htake, List.getElem?_take] at hu
    split at hu
    · simpa using hu
    · cases hu
end

/-- An inner row: its block's type is known. -/
def InT {α : Type} (w : World) (e k : Nat) (f : α → List Value) (A : Option Addr) (c : Nat) (l : List α) : Prop :=
  In w k f A l.length l ∧ l.length ≤ c ∧ c ≤ 9223372036854775807 ∧ ∀ a, A = some a → ∃ cs fz, w.heap[a.block]? = some (.cells cs e fz)
/-- A row of rows of the call's own: the outer elements' type is eo, the inner ones' ei. -/
def OwnN {α : Type} (w : World) (base eo ei k : Nat) (f : α → List Value) (v : Value) (ll : List (List α)) : Prop :=
  ∃ us : List Value, w.ownsRow base eo 1 v ll.length us ∧ ∀ (j : Nat) (row : List α), ll[j]? = some row → ∃ A c, us[j]? = some (Value.slice A row.length c) ∧ InT w ei k f A c row

section
variable {α : Type} {f : α → List Value} {k e base base' eo ei : Nat} {w w' : World} {v : Value} {ll : List (List α)} {A : Option Addr} {c : Nat} {l : List α}
theorem OwnR.inT (h : OwnR w base e k f v l) : ∃ A c, v = .slice A l.length c ∧ InT w e k f A c l := by
  obtain ⟨A, c, h1, h2, h3, h4, h5⟩ := h.form
  exact ⟨A, c, h1, h2, h3, h4, fun a ha => by obtain ⟨_, cs, hr⟩ := h5 a ha; exact ⟨cs, _, hr⟩⟩
theorem InT.keep {r : Option Nat} (h : InT w e k f A c l) (hk : w.grownBy w' r) (hr : ∀ g, r = some g → ∀ cs fz, w.heap[g]? ≠ some (.cells cs e fz)) : InT w' e k f A c l := by
  refine ⟨⟨h.1.1, h.1.2.1, fun hn => ?_⟩, h.2.1, h.2.2.1, fun a ha => ?_⟩
  · obtain ⟨b, o, e', hc⟩ := h.1.2.2 hn
    obtain ⟨cs, fz, hh⟩ := h.2.2.2 _ e'
    exact ⟨b, o, e', fun j u hu => hk.cell (hc j u hu) (by intro h2; exact hr b h2.symm cs fz hh)⟩
  · obtain ⟨cs, fz, hh⟩ := h.2.2.2 a ha
    have hlt := (Array.getElem?_eq_some_iff.1 hh).1
    exact ⟨cs, fz, (hk.block _ hlt (by intro h2; exact hr a.block h2.symm cs fz hh)).trans hh⟩
theorem grown_below (hb : Below w.heap.size w w') : w.grownBy w' none := ⟨hb.os, hb.tape, hb.output, hb.size, fun k hk _ => hb.block k hk⟩
theorem grown_put (w : World) (p i : Nat) (u : Value) : w.grownBy (w.setCell ⟨p, i, none⟩ u) (some p) := ⟨rfl, rfl, rfl, by simp, fun k hk hne => Below.heap_setCell w ⟨p, i, none⟩ u k (fun e => hne (by rw [show k = p from e]))⟩
theorem InT.below (h : InT w e k f A c l) (hb : Below w.heap.size w w') : InT w' e k f A c l := h.keep (grown_below hb) fun g hg => by cases hg

theorem OwnN.keep {r : Option Nat} (h : OwnN w base eo ei k f v ll) (hk : w.grownBy w' r) (hr : ∀ g, r = some g → (∀ cs fz, w.heap[g]? ≠ some (.cells cs ei fz)) ∧ v.ownBlock ≠ some g) : OwnN w' base eo ei k f v ll := by
  obtain ⟨us, h1, h2⟩ := h
  refine ⟨us, h1.kept hk ?_, fun j x hx => ?_⟩
  · cases r with
    | none => cases hv : v.ownBlock with
      | none => exact .inl rfl
      | some k => exact .inr (by simp)
    | some g => exact .inr (hr g rfl).2
  · obtain ⟨A, c, a3, a4⟩ := h2 j x hx
    exact ⟨A, c, a3, a4.keep hk fun g hg => (hr g hg).1⟩
theorem OwnN.below (h : OwnN w base eo ei k f v ll) (hb : Below w.heap.size w w') : OwnN w' base eo ei k f v ll := h.keep (grown_below hb) fun g hg => by cases hg
theorem OwnN.nil (w : World) (base eo ei k : Nat) (f : α → List Value) : OwnN w base eo ei k f (.slice none 0 0) [] := ⟨[], World.ownsRow_nil w base eo 1, by simp⟩
theorem OwnN.mono (h : OwnN w base eo ei k f v ll) (hb : base' ≤ base) : OwnN w base' eo ei k f v ll := by
  obtain ⟨us, h1, h2⟩ := h
  exact ⟨us, own_mono h1 hb, h2⟩
theorem OwnN.slice (h : OwnN w base eo ei k f v ll) : ∃ A c, v = .slice A ll.length c ∧ ll.length ≤ c ∧ c ≤ 9223372036854775807 := by
  obtain ⟨us, h1, _⟩ := h
  exact own_slice h1
theorem OwnN.block (h : OwnN w base eo ei k f v ll) {g : Nat} (hg : v.ownBlock = some g) : base ≤ g ∧ ∃ cs, Row w g eo cs := by
  obtain ⟨us, h1, _⟩ := h
  exact own_block h1 hg
/-- What is written into a block of another type leaves a row of rows. -/
theorem OwnN.far {p : Nat} {t : TypeId} {cs : Array Value} (h : OwnN w base eo ei k f v ll) (hk : w.grownBy w' (some p)) (hp : Row w p t cs) (h1 : t ≠ ei) (h2 : t ≠ eo) : OwnN w' base eo ei k f v ll := by
  refine h.keep hk fun g hg => ?_
  obtain rfl := Option.some.inj hg
  refine ⟨fun cs' fz hh => h1 (hp.ty hh), fun hb => ?_⟩
  obtain ⟨_, cs', hh⟩ := h.block hb
  exact h2 (hp.ty hh)
theorem OwnR.far {p : Nat} {t : TypeId} {cs : Array Value} (h : OwnR w base e k f v l) (hk : w.grownBy w' (some p)) (hp : Row w p t cs) (h1 : t ≠ e) : OwnR w' base e k f v l :=
  World.ownsRow.kept h hk (.inr fun hb => by
    obtain ⟨_, cs', hh⟩ := own_block h hb
    exact h1 (hp.ty hh))
theorem OwnN.nest {n : Nat} (h : OwnN w base eo ei k f (.slice A n c) ll) : Nest w k f A ll.length ll := by
  obtain ⟨us, ⟨hl, h1⟩, h2⟩ := h
  refine ⟨rfl, fun hn => ?_⟩
  rcases h1 with ⟨_, h0⟩ | ⟨g, cap, cur, hv, _, hg, hcap, _, hcs, htake⟩
  · omega
  · injection hv with hA
    subst hA
    refine ⟨g, 0, rfl, fun j x hx => ?_⟩
    obtain ⟨A', c', a3, a4, a5, a6, _⟩ := h2 j x hx
    refine ⟨A', c', ?_, a4, a5, a6⟩
    rw [Nat.zero_add, cell_of_row w g j cur eo (0, 0) hg]
    rw [← htake, List.getElem?_take] at a3
    split at a3
    · simpa using a3
    · cases a3
theorem OwnN.snoc {r : Option Nat} {us : List Value} {v' : Value} {acc : List (List α)} {x : List α}
    (hus : ∀ (j : Nat) (row : List α), acc[j]? = some row → ∃ A c, us[j]? = some (Value.slice A row.length c) ∧ InT w ei k f A c row) (hl : us.length = acc.length)
    (hx : InT w ei k f A c x) (hown : w'.ownsRow base eo 1 v' (acc.length + 1) (us ++ [.slice A x.length c])) (hk : w.grownBy w' r) (hr : ∀ g, r = some g → ∀ cs fz, w.heap[g]? ≠ some (.cells cs ei fz)) : OwnN w' base eo ei k f v' (acc ++ [x]) := by
  refine ⟨_, by rw [List.length_append]; exact hown, fun j y hy => ?_⟩
  by_cases hj : j < acc.length
  · rw [List.getElem?_append_left hj] at hy
    obtain ⟨A', c', a3, a4⟩ := hus j y hy
    exact ⟨A', c', by rw [List.getElem?_append_left (by omega)]; exact a3, a4.keep hk hr⟩
  · have hlt := (List.getElem?_eq_some_iff.1 hy).1
    have hje : j = acc.length := by simp at hlt; omega
    subst hje
    rw [List.getElem?_append_right (by omega), Nat.sub_self] at hy
    obtain rfl : x = y := by simpa using hy
    exact ⟨A, c, by rw [List.getElem?_append_right (by omega), hl, Nat.sub_self]; rfl, hx.keep hk hr⟩
end

/-- append of elements onto a row of the call's own. -/
theorem appR {α : Type} {f : α → List Value} {t e k bytes : Nat} (ti : TI t e k bytes) (hk : 0 < k) (hf : ∀ x, ∀ u ∈ f x, u.oneCell' = true) {w : World} {ops : Array Oper} {rest : List Oper} {o : Oper} {a : Act} {Q : Exit → Act → World → Prop} (base : Nat) {v : Value} {l : List α} (hown : OwnR w base e k f v l)
    {A : Option Addr} {m : Nat} {news : List α} (hr : In w k f A m news)
    (hlen : l.length + m ≤ 1000000000) (hby : bytes ≤ 100) (hbase : base ≤ w.heap.size) (hgd : o.guard = none) (s x : Operand)
    (ho : o.op = .call { callee := .builtin .append, args := #[s, x], argTypes := #[t, t] }) (hs : a.eval s = v) (c : Nat) (hx : a.eval x = .slice A m c)
    (h : ∀ A2 c2 w', OwnR w' base e k f (.slice A2 (l.length + m) c2) (l ++ news) → Below base w w' → w.grownBy w' v.ownBlock → wpList Try.prog ops Q rest (a.put o.dst (.slice A2 (l.length + m) c2)) w') : wpList Try.prog ops Q (o :: rest) a w := by
  refine appG ti hk base hown hr.2 (fun u hu => by obtain ⟨y, _, hy⟩ := List.mem_flatMap.1 hu; exact hf y u hy) hlen hby hbase hgd s x ho hs c hx fun A2 c2 w' h1 h2 h3 => h A2 c2 w' ?_ h2 h3
  unfold OwnR
  rw [List.length_append, flat_append, hr.1]
  exact h1
theorem one1 (x : Int) : ∀ u ∈ f1 x, u.oneCell' = true := by intro u hu; simp [f1] at hu; subst hu; rfl
theorem one2 (x : Int × Int) : ∀ u ∈ f2 x, u.oneCell' = true := by intro u hu; simp [f2] at hu; rcases hu with rfl | rfl <;> rfl
theorem one3 (x : Int × Int × Int) : ∀ u ∈ f3 x, u.oneCell' = true := by intro u hu; simp [f3] at hu; rcases hu with rfl | rfl | rfl <;> rfl

/-- append of one row onto a row of rows of the call's own. -/
theorem appN {α : Type} {f : α → List Value} {t eo ei k bytes : Nat} (ti : TI t eo 1 bytes) (hne : eo ≠ ei) {w : World} {ops : Array Oper} {rest : List Oper} {o : Oper} {a : Act} {Q : Exit → Act → World → Prop} (base : Nat) {v : Value} {ll : List (List α)} (hown : OwnN w base eo ei k f v ll)
    {g : Nat} {x : List α} {A' : Option Addr} {c' : Nat} (hr : Row w g eo #[.slice A' x.length c']) (hx' : InT w ei k f A' c' x)
    (hlen : ll.length ≤ 1000000) (hby : bytes ≤ 100) (hbase : base ≤ w.heap.size) (hgd : o.guard = none) (s y : Operand)
    (ho : o.op = .call { callee := .builtin .append, args := #[s, y], argTypes := #[t, t] }) (hs : a.eval s = v) (hx : a.eval y = .slice (some ⟨g, 0, none⟩) 1 1)
    (h : ∀ A2 c2 w', OwnN w' base eo ei k f (.slice A2 (ll.length + 1) c2) (ll ++ [x]) → Below base w w' → (∀ p t cs, Row w p t cs → t ≠ eo → Row w' p t cs) → w.grownBy w' v.ownBlock → wpList Try.prog ops Q rest (a.put o.dst (.slice A2 (ll.length + 1) c2)) w') : wpList Try.prog ops Q (o :: rest) a w := by
  obtain ⟨us, h1, h2⟩ := hown
  refine appG ti (by omega) base h1 (A := some ⟨g, 0, none⟩) (m := 1) (news := [.slice A' x.length c']) ⟨rfl, fun _ => ⟨g, 0, rfl, fun j u hu => by rw [Nat.zero_add, hr.cell j]; simpa using hu⟩⟩ (by intro u hu; simp at hu; subst hu; rfl) (by omega) hby hbase hgd s y ho hs 1 hx fun A2 c2 w' h3 h4 h5 => h A2 c2 w' ?_ h4 (fun p t cs hp ht => grown_row h1 h5 hp ht) h5
  refine OwnN.snoc h2 (by have := h1.1; omega) hx' h3 h5 fun k hk cs fz hh => ?_
  obtain ⟨_, cs', h6⟩ := own_block h1 hk
  exact hne (h6.ty hh)
end Go.Proofs.Ytfldbkioepcghaa
