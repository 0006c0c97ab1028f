/- Rows of cases; what is read, as plain data. -/
import Derived.Test.YtbfefjlilmoigaaD2b
import Derived.Test.YtbfefjlilmoigaaT6
import Derived.Deep.AppendLies
import Derived.Deep.RegionLaw
namespace Go.Proofs.Ytbfefjlilmoigaa
open Go.RowKit
set_option linter.unusedVariables false

def casesR (bs : List UInt8) : Nat → Int → Except Nat (List Cas × Int)
  | 0, at_ => .ok ([], at_)
  | k + 1, at_ => match oneR bs at_ with
    | .error z => .error z
    | .ok (x, nx) => match casesR bs k nx with
      | .error z => .error z
      | .ok (l, to) => .ok (x :: l, to)

/-- Four bytes as a number, the least first. -/
def le4 (bs : List UInt8) : Nat := (bs.getD 0 0).toNat + 256 * ((bs.getD 1 0).toNat + 256 * ((bs.getD 2 0).toNat + 256 * (bs.getD 3 0).toNat))

def magicB : List UInt8 := [71, 82, 68, 49]
def allR (bs : List UInt8) : Except Nat (Nat × List Cas) :=
  if 8 ≤ bs.length ∧ bs.take 4 = magicB then
    match numR bs 8 okM 5 with
    | .error z => .error z
    | .ok (k, a1) => match casesR bs k a1 with
      | .error z => .error z
      | .ok (l, to) => if to = bs.length then .ok (le4 (bs.drop 4), l) else .error 3
  else .error 3

/-- A row of the call's own that bears cases. -/
def OwnC (w : World) (base : Nat) (v : Value) (l : List Cas) : Prop :=
  ∃ us, w.ownsRow base 66 3 v l.length us ∧ ∀ j x, l[j]? = some x → us[j * 3]? = some (.int .i64 x.kind) ∧ us[j * 3 + 1]? = some (.int .i64 x.note) ∧ ∃ A c, us[j * 3 + 2]? = some (.slice A x.word.length c) ∧ WordT w A c x.word

def joinC (acc : List Cas) (r : Except Nat (List Cas × Int)) : Except Nat (List Cas × Int) := match r with
  | .error z => .error z
  | .ok (l, to) => .ok (acc ++ l, to)

theorem OwnC.keep {w w' : World} {base : Nat} {v : Value} {l : List Cas} {r : Option Nat} (h : OwnC w base v l) (hk : w.grownBy w' r) (hr : ∀ g, r = some g → (∀ cs fz, w.heap[g]? ≠ some (.cells cs 3 fz)) ∧ v.ownBlock ≠ some g) : OwnC w' base v l := by
  obtain ⟨us, h1, h2⟩ := h
  refine ⟨us, h1.kept hk ?_, fun j x hx => ?_⟩
  · cases r with
    | none => cases hv : v.ownBlock with
      | none => exact .inl rfl
      | some k => exact .inr (by simp)
    | some g => exact .inr (hr g rfl).2
  · obtain ⟨a1, a2, A, c, a3, a4⟩ := h2 j x hx
    exact ⟨a1, a2, A, c, a3, a4.keep hk fun g hg => (hr g hg).1⟩
theorem OwnC.block {w : World} {base : Nat} {v : Value} {l : List Cas} (h : OwnC w base v l) {k : Nat} (hk : v.ownBlock = some k) : base ≤ k ∧ ∃ cs, w.heap[k]? = some (.cells cs 66 (0, 0)) := by
  obtain ⟨us, h1, _⟩ := h
  rcases h1.2 with ⟨rfl, _⟩ | ⟨g, cap, cur, rfl, hg, hh, _⟩
  · simp [Value.ownBlock] at hk
  · simp [Value.ownBlock] at hk
    subst hk
    exact ⟨hg, _, hh⟩
theorem OwnC.far {w w' : World} {base : Nat} {v : Value} {l : List Cas} {p : Nat} {t : TypeId} {cs : Array Value} (h : OwnC w base v l) (hk : w.grownBy w' (some p)) (hp : Row w p t cs) (h3 : t ≠ 3) (h66 : t ≠ 66) : OwnC w' base v l := by
  refine h.keep hk fun g hg => ?_
  obtain rfl := Option.some.inj hg
  unfold Row at hp
  refine ⟨fun cs' fz hh => ?_, fun hb => ?_⟩
  · rw [hp] at hh
    injection hh with hh
    injection hh with _ h2 _
    exact h3 h2
  · obtain ⟨_, cs', hh⟩ := h.block hb
    rw [hp] at hh
    injection hh with hh
    injection hh with _ h2 _
    exact h66 h2
theorem OwnC.nil (w : World) (base : Nat) : OwnC w base (.slice none 0 0) [] := ⟨[], World.ownsRow_nil w base 66 3, by simp⟩

theorem info66 : (Try.prog.info? 66).map (fun i => (i.zero, i.size, i.bytes)) = some (some (.agg #[.int .i64 0, .int .i64 0, .slice none 0 0]), 3, 40) := by kernel_rfl
theorem OwnC.ne {w : World} {base : Nat} {v : Value} {l : List Cas} {p : Nat} {t : TypeId} {cs : Array Value} (h : OwnC w base v l) (hp : Row w p t cs) (h66 : t ≠ 66) : v.ownBlock ≠ some p := fun hb => by
  obtain ⟨_, cs', hh⟩ := h.block hb
  unfold Row at hp
  rw [hp] at hh
  injection hh with hh
  injection hh with _ h2 _
  exact h66 h2

def AllPost (w : World) (g : Nat) (r : Except Nat (Nat × List Cas)) (e : Ending) (w' : World) : Prop :=
  Keep g w w' ∧ match r with
    | .error z => e = wrongP (z : Int)
    | .ok (d, l) => ∃ v, e = .returned (.agg #[.int .u32 (d : Int), v]) ∧ OwnC w' w.heap.size v l

/-- The digest from its upper t bytes. -/
def digT (bs : List UInt8) : Nat → Nat
  | 0 => 0
  | t + 1 => digT bs t * 256 + (bs.getD (7 - t) 0).toNat
theorem digT_lt (bs : List UInt8) : ∀ t, digT bs t < 256 ^ t
  | 0 => by simp [digT]
  | t + 1 => by
    have h1 := digT_lt bs t
    have h2 := (bs.getD (7 - t) 0).toNat_lt
    rw [digT, Nat.pow_succ]
    omega
theorem digT_all (bs : List UInt8) (h : 8 ≤ bs.length) : digT bs 4 = le4 (bs.drop 4) := by
  simp only [digT, le4, List.getD_eq_getElem?_getD, List.getElem?_drop]
  simp only [Nat.reduceAdd, Nat.reduceSub]
  omega

theorem OwnC.put {w : World} {base : Nat} {v : Value} {l : List Cas} {p : Nat} {t : TypeId} {cs : Array Value} (h : OwnC w base v l) (hp : Row w p t cs) (h3 : t ≠ 3) (h66 : t ≠ 66) (i : Nat) (u : Value) : OwnC (w.setCell ⟨p, i, none⟩ u) base v l :=
  h.far (p := p) ⟨rfl, rfl, rfl, by simp, fun k hk hne => Below.heap_setCell w ⟨p, i, none⟩ u k (fun e => hne (by rw [show k = p from e]))⟩ hp h3 h66

theorem OwnC.snoc {w w' : World} {base : Nat} {v' : Value} {acc : List Cas} {x : Cas} {us : List Value} {A : Option Addr} {c : Nat} {r : Option Nat}
    (hus : ∀ j y, acc[j]? = some y → us[j * 3]? = some (.int .i64 y.kind) ∧ us[j * 3 + 1]? = some (.int .i64 y.note) ∧ ∃ A c, us[j * 3 + 2]? = some (.slice A y.word.length c) ∧ WordT w A c y.word)
    (hl : us.length = acc.length * 3) (hw : WordT w A c x.word) (hown : w'.ownsRow base 66 3 v' (acc.length + 1) (us ++ [.int .i64 x.kind, .int .i64 x.note, .slice A x.word.length c]))
    (hk : w.grownBy w' r) (hr : ∀ g, r = some g → ∀ cs fz, w.heap[g]? ≠ some (.cells cs 3 fz)) : OwnC w' base v' (acc ++ [x]) := by
  refine ⟨_, by rw [List.length_append]; exact hown, fun j y hy => ?_⟩
  by_cases hj : j < acc.length
  · rw [List.getElem?_append_left hj] at hy
    obtain ⟨a1, a2, A', c', a3, a4⟩ := hus j y hy
    exact ⟨by rw [List.getElem?_append_left (by omega)]; exact a1, by rw [List.getElem?_append_left (by omega)]; exact a2, A', c', by rw [List.getElem?_append_left (by omega)]; exact a3, a4.keep hk hr⟩
  · have hlt := (List.getElem?_eq_some_iff.1 hy).1
    have hje : j = acc.length := by simp at hlt; omega
    subst hje
    rw [List.getElem?_append_right (by omega), Nat.sub_self] at hy
    obtain rfl : x = y := by simpa using hy
    refine ⟨?_, ?_, A, c, ?_, hw.keep hk hr⟩
    · rw [List.getElem?_append_right (by omega), hl, Nat.sub_self]; rfl
    · rw [List.getElem?_append_right (by omega), hl, show acc.length * 3 + 1 - acc.length * 3 = 1 by omega]; rfl
    · rw [List.getElem?_append_right (by omega), hl, show acc.length * 3 + 2 - acc.length * 3 = 2 by omega]; rfl
end Go.Proofs.Ytbfefjlilmoigaa
