/- Plain words: what is packed, written out; small laws of lists of cells. -/
import Derived.Test.YtfldbkioepcghaaT10
import Derived.Test.YtfldbkioepcghaaT15
namespace Go.Proofs.Ytfldbkioepcghaa
open Go.RowKit
set_option linter.unusedVariables false

theorem k2L (x : Int × Int) : (f2 x).length = 2 := rfl

/-- A row written out. -/
def uRow (terms : Int) (row : List (Int × Int × Int)) : List (Int × Int) := row.foldl (fun l x => l.set x.1.toNat x.2) (List.replicate (terms + 1).toNat (0, 0))
def uGot (nons : Int) (row : List (Int × Int)) : List Int := row.foldl (fun l x => l.set x.1.toNat x.2) (List.replicate nons.toNat (-1))
/-- The table that a packed one is of. -/
def unpackT (p : Pk) : Tab := ⟨p.of.map fun z => uRow p.terms ((rowAt p.rows z).getD []), p.to.map fun z => uGot p.nons ((rowAt p.gotos z).getD [])⟩
def unpackE (p : Pk) : Tab × Int := if rightP p then (unpackT p, 0) else (⟨[], []⟩, 1)
def UnPost (w : World) (r : Tab × Int) (e : Ending) (w' : World) : Prop :=
  ∃ A c B d, e = .returned (.tuple #[.agg #[.slice A r.1.acts.length c, .slice B r.1.gots.length d], .int .i64 r.2]) ∧ OwnN w' w.heap.size 47 43 2 f2 (.slice A r.1.acts.length c) r.1.acts ∧ OwnN w' w.heap.size 30 3 1 f1 (.slice B r.1.gots.length d) r.1.gots ∧ Below w.heap.size w w'

theorem foldl_set_len {α β : Type} (g : β → Nat) (h : β → α) : ∀ (row : List β) (l : List α), (row.foldl (fun l x => l.set (g x) (h x)) l).length = l.length
  | [], l => rfl
  | x :: row, l => by rw [List.foldl_cons, foldl_set_len g h row, List.length_set]
theorem uRow_len (terms : Int) (row : List (Int × Int × Int)) : (uRow terms row).length = (terms + 1).toNat := by
  unfold uRow
  rw [foldl_set_len (fun x : Int × Int × Int => x.1.toNat) (fun x => x.2), List.length_replicate]
theorem uGot_len (nons : Int) (row : List (Int × Int)) : (uGot nons row).length = nons.toNat := by
  unfold uGot
  rw [foldl_set_len (fun x : Int × Int => x.1.toNat) (fun x => x.2), List.length_replicate]
theorem uRow_step (terms : Int) (row : List (Int × Int × Int)) {k cc : Nat} {y : Int × Int} (h : row[k]? = some ((cc : Int), y)) : (uRow terms (row.take k)).set cc y = uRow terms (row.take (k + 1)) := by
  unfold uRow
  rw [List.take_add_one, h, List.foldl_append]
  rfl
theorem uGot_step (nons : Int) (row : List (Int × Int)) {k cc : Nat} {y : Int} (h : row[k]? = some ((cc : Int), y)) : (uGot nons (row.take k)).set cc y = uGot nons (row.take (k + 1)) := by
  unfold uGot
  rw [List.take_add_one, h, List.foldl_append]
  rfl

theorem rise_len : ∀ (l : List Int) (most last : Int), riseL l most last = true → last < most → (l.length : Int) ≤ most - 1 - last
  | [], most, last, _, h => by simp; omega
  | x :: l, most, last, h, hl => by
    simp only [riseL, Bool.and_eq_true, Bool.not_eq_true', decide_eq_false_iff_not] at h
    have ih := rise_len l most x h.2.2 (by omega)
    simp only [List.length_cons]
    omega
theorem rise_at : ∀ {l : List Int} {most last : Int} {k : Nat} {x : Int}, riseL l most last = true → l[k]? = some x → last < x ∧ x < most
  | [], _, _, _, _, _, h => by simp at h
  | y :: l, most, last, 0, x, h, hx => by
    simp only [riseL, Bool.and_eq_true, Bool.not_eq_true', decide_eq_false_iff_not] at h
    obtain rfl : y = x := by simpa using hx
    omega
  | y :: l, most, last, k + 1, x, h, hx => by
    simp only [riseL, Bool.and_eq_true, Bool.not_eq_true', decide_eq_false_iff_not] at h
    have ih := rise_at h.2.2 (show l[k]? = some x by simpa using hx)
    omega
theorem rowOk_len {terms : Int} {row : List (Int × Int × Int)} (h : rowOk terms row = true) (h0 : 0 ≤ terms) (h1 : terms ≤ 24) : row.length ≤ 30 := by
  unfold rowOk at h
  rw [Bool.and_eq_true] at h
  have := rise_len _ _ _ h.1 (by omega)
  rw [List.length_map] at this
  omega
theorem gotOk_len {nons : Int} {row : List (Int × Int)} (h : gotOk nons row = true) (h0 : 0 ≤ nons) (h1 : nons ≤ 16) : row.length ≤ 30 := by
  unfold gotOk at h
  rw [Bool.and_eq_true] at h
  have := rise_len _ _ _ h.1 (by omega)
  rw [List.length_map] at this
  omega
theorem rowOk_at {terms : Int} {row : List (Int × Int × Int)} (h : rowOk terms row = true) {k : Nat} {x : Int × Int × Int} (hx : row[k]? = some x) : 0 ≤ x.1 ∧ x.1 < terms + 1 := by
  unfold rowOk at h
  rw [Bool.and_eq_true] at h
  have := rise_at (k := k) (x := x.1) h.1 (by rw [List.getElem?_map, hx]; rfl)
  omega
theorem gotOk_at {nons : Int} {row : List (Int × Int)} (h : gotOk nons row = true) {k : Nat} {x : Int × Int} (hx : row[k]? = some x) : 0 ≤ x.1 ∧ x.1 < nons := by
  unfold gotOk at h
  rw [Bool.and_eq_true] at h
  have := rise_at (k := k) (x := x.1) h.1 (by rw [List.getElem?_map, hx]; rfl)
  omega

theorem flat_set2 : ∀ (l : List (Int × Int)) (k : Nat) (x : Int × Int), ((flat f2 l).set (k * 2) (.int .i64 x.1)).set (k * 2 + 1) (.int .i64 x.2) = flat f2 (l.set k x)
  | [], k, x => by simp [flat]
  | y :: l, 0, x => by simp [flat, f2]
  | y :: l, k + 1, x => by
    have ih := flat_set2 l k x
    rw [show (k + 1) * 2 = k * 2 + 1 + 1 by omega]
    show (((f2 y ++ flat f2 l).set (k * 2 + 1 + 1) _).set (k * 2 + 1 + 1 + 1) _) = f2 y ++ flat f2 (l.set k x)
    rw [← ih]
    simp [f2]
theorem flat_set1 : ∀ (l : List Int) (k : Nat) (x : Int), (flat f1 l).set k (.int .i64 x) = flat f1 (l.set k x)
  | [], k, x => by simp [flat]
  | y :: l, 0, x => by simp [flat, f1]
  | y :: l, k + 1, x => by
    have ih := flat_set1 l k x
    show ((f1 y ++ flat f1 l).set (k + 1) _) = f1 y ++ flat f1 (l.set k x)
    rw [← ih]
    simp [f1]
theorem flat_rep1 (n : Nat) (z : Int) : flat f1 (List.replicate n z) = List.replicate n (Value.int .i64 z) := by
  induction n with
  | zero => rfl
  | succ n ih =>
    rw [List.replicate_succ, List.replicate_succ, ← ih]
    rfl
theorem flat_rep2 (n : Nat) : flat f2 (List.replicate n ((0, 0) : Int × Int)) = List.replicate (n * 2) (Value.int .i64 0) := by
  induction n with
  | zero => rfl
  | succ n ih =>
    rw [List.replicate_succ, show (n + 1) * 2 = n * 2 + 1 + 1 by omega, List.replicate_succ, List.replicate_succ, ← ih]
    rfl

/-- A block read whole as a row. -/
theorem row_inT {α : Type} {f : α → List Value} {k e g : Nat} {w : World} {l : List α} (hk : ∀ x, (f x).length = k) (h : Row w g e (flat f l).toArray) (hl : l.length ≤ 1000000) : InT w e k f (some ⟨g, 0, none⟩) l.length l :=
  ⟨⟨rfl, flat_len hk l, fun _ => ⟨g, 0, rfl, fun j u hu => by rw [Nat.zero_add, h.cell j]; simpa using hu⟩⟩, Nat.le_refl _, by omega, fun a ha => by cases ha; exact ⟨_, _, h⟩⟩

theorem toList_madeCells_two (z : Value) (n : Nat) : (madeCells #[z, z] n).toList = List.replicate n z := by
  apply List.ext_getElem?
  intro j
  by_cases hj : j < n
  · have h2 : j % 2 = 0 ∨ j % 2 = 1 := by omega
    rcases h2 with h2 | h2 <;> simp [madeCells, hj, h2]
  · simp [madeCells, hj]
theorem info43 : (Try.prog.info? 43).map (fun i => (i.zero, i.size, i.bytes)) = some (some (.agg #[.int .i64 0, .int .i64 0]), 2, 16) := by kernel_rfl
theorem make47 (m : Nat) (hm : m ≤ 25) (w : World) : (Instr.makeSlice 47 (.int .i64 (m : Int)) (.int .i64 (m : Int))).run Try.prog w = .ok (.slice (some ⟨w.heap.size, 0, none⟩) m m) (w.alloc (.cells (flat f2 (List.replicate m ((0, 0) : Int × Int))).toArray 43)) := by
  obtain ⟨i0, hi, hz0, hz1, hz2⟩ := info_parts info43
  have h := run_make (P := Try.prog) w 47 43 i0 _ Try.underlying47 hi hz0 .i64 .i64 (m : Int) (m : Int) (by omega) (by omega) (by rw [hz2]; omega) (by omega)
  rw [h, Int.toNat_natCast, hz1, flat_rep2]
  congr 3
  apply Array.toList_inj.1
  rw [show (Value.agg #[.int .i64 0, .int .i64 0]).cells = #[.int .i64 0, .int .i64 0] from rfl]
  exact toList_madeCells_two _ _

theorem InT.grown {α : Type} {f : α → List Value} {k e base' e' k' n' c : Nat} {A : Option Addr} {l : List α} {w w' : World} {v' : Value} {xs' : List Value} (h : InT w e k f A c l) (ho : w.ownsRow base' e' k' v' n' xs') (hg : w.grownBy w' v'.ownBlock) (hne : e' ≠ e) : InT w' e k f A c l :=
  h.keep hg fun p hp cs fz hh => by
    obtain ⟨_, _, r2⟩ := own_block ho hp
    exact hne (r2.ty hh)
/-- A row appended to rows, the lengths told apart. -/
theorem stepN' {α : Type} {f : α → List Value} {t eo ei k bytes : Nat} (ti : TI t eo 1 bytes) (hne : eo ≠ ei) {w : World} {ops : Array Oper} {o : Oper} {a : Act} {K : Act → World → Prop} {Q : Exit → Act → World → Prop} {E : Prop} (base : Nat) {A : Option Addr} {i c : Nat} {ll : List (List α)} (hown : OwnN w base eo ei k f (.slice A i c) ll)
    {g n : Nat} {x : List α} {A' : Option Addr} {c' : Nat} (hn : x.length = n) (hr : Row w g eo #[.slice A' n c']) (hx' : InT w ei k f A' c' x)
    (hll : ll.length = i) (hlen : i ≤ 1000000) (hby : bytes ≤ 100) (hbase : base ≤ w.heap.size) (hgd : o.guard = none) (s y : Operand)
    (ho : o.op = .call { callee := .builtin .append, args := #[s, y], argTypes := #[t, t] }) (hs : a.eval s = .slice A i c) (hx : a.eval y = .slice (some ⟨g, 0, none⟩) 1 1)
    (h : ∀ A2 c2 w', OwnN w' base eo ei k f (.slice A2 (i + 1) c2) (ll ++ [x]) → Below base w w' → (∀ p t cs, Row w p t cs → t ≠ eo → Row w' p t cs) → w.grownBy w' (Value.ownBlock (.slice A i c)) → K (a.put o.dst (.slice A2 (i + 1) c2)) w') :
    if Region.wanted o (yielded ops a.tmps) = true then Oper.wp Try.prog o a w K Q else E := by
  subst hn hll
  exact stepN ti hne base hown hr hx' hlen hby hbase hgd s y ho hs hx h
theorem stepR' {α : Type} {f : α → List Value} {t e k bytes : Nat} (ti : TI t e k bytes) (hk : 0 < k) (hf : ∀ x, ∀ u ∈ f x, u.oneCell' = true) {w : World} {ops : Array Oper} {o : Oper} {a : Act} {K : Act → World → Prop} {Q : Exit → Act → World → Prop} {E : Prop} (base : Nat) {A' : Option Addr} {i c' : Nat} {l : List α} (hown : OwnR w base e k f (.slice A' i c') l)
    {A : Option Addr} {m : Nat} {news : List α} (hr : In w k f A m news) (hll : l.length = i)
    (hlen : i + m ≤ 1000000000) (hby : bytes ≤ 100) (hbase : base ≤ w.heap.size) (hgd : o.guard = none) (s x : Operand)
    (ho : o.op = .call { callee := .builtin .append, args := #[s, x], argTypes := #[t, t] }) (hs : a.eval s = .slice A' i c') (c : Nat) (hx : a.eval x = .slice A m c)
    (h : ∀ A2 c2 w', OwnR w' base e k f (.slice A2 (i + m) c2) (l ++ news) → Below base w w' → w.grownBy w' (Value.ownBlock (.slice A' i c')) → K (a.put o.dst (.slice A2 (i + m) c2)) w') :
    if Region.wanted o (yielded ops a.tmps) = true then Oper.wp Try.prog o a w K Q else E := by
  subst hll
  exact stepR ti hk hf base hown hr hlen hby hbase hgd s x ho hs c hx h
end Go.Proofs.Ytfldbkioepcghaa
