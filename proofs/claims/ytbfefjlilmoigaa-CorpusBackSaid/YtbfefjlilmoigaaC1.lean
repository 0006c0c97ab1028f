/- A corpus as plain data, and as it lies in memory. -/
import Derived.Test.YtbfefjlilmoigaaOpen2
import Derived.Deep.Strs
namespace Go.Proofs.Ytbfefjlilmoigaa
open Go.ChangeShapes Go.WideShapes Go.ChangeAt Go.RowKit
set_option linter.unusedVariables false

structure Cas where
  kind : Int
  note : Int
  word : List Int
theorem Cas.same {a b : Cas} (h : a.kind = b.kind ∧ a.note = b.note ∧ a.word = b.word) : a = b := by
  obtain ⟨h1, h2, h3⟩ := h
  cases a
  cases b
  cases h1
  cases h2
  cases h3
  rfl
instance : DecidableEq Cas := fun a b => decidable_of_iff (a.kind = b.kind ∧ a.note = b.note ∧ a.word = b.word) ⟨Cas.same, fun h => by rw [h]; exact ⟨rfl, rfl, rfl⟩⟩

/-- A slice of numbers whose length is the list's. -/
def WordAt (w : World) (A : Option Addr) (c : Nat) (l : List Int) : Prop := Ints w A l.length l ∧ l.length ≤ c ∧ c ≤ 9223372036854775807

def CasAt (w : World) (b o : Nat) (x : Cas) : Prop :=
  ∃ A c, w.cell? ⟨b, o, none⟩ = some (.int .i64 x.kind) ∧ w.cell? ⟨b, o + 1, none⟩ = some (.int .i64 x.note) ∧ w.cell? ⟨b, o + 2, none⟩ = some (.slice A x.word.length c) ∧ WordAt w A c x.word

def Cases (w : World) (A : Option Addr) (n : Nat) (l : List Cas) : Prop :=
  l.length = n ∧ (0 < n → ∃ b o, A = some ⟨b, o, none⟩ ∧ ∀ j x, l[j]? = some x → CasAt w b (o + j * 3) x)

/-- What a number of 64 bits may be. -/
def In64 (z : Int) : Prop := -9223372036854775808 ≤ z ∧ z ≤ 9223372036854775807
def Cas.ok (x : Cas) : Prop := In64 x.kind ∧ In64 x.note ∧ (∀ z ∈ x.word, In64 z) ∧ x.word.length ≤ 140737488351232

section
variable {w w' : World}
theorem WordAt.keep {A : Option Addr} {c : Nat} {l : List Int} (h : WordAt w A c l) (hk : ∀ p : Addr, p.block < w.heap.size → w'.cell? p = w.cell? p) : WordAt w' A c l := ⟨Elems.keep h.1 hk, h.2⟩
theorem CasAt.keep {b o : Nat} {x : Cas} (h : CasAt w b o x) (hk : ∀ p : Addr, p.block < w.heap.size → w'.cell? p = w.cell? p) : CasAt w' b o x := by
  obtain ⟨A, c, h1, h2, h3, h4⟩ := h
  exact ⟨A, c, (hk _ (cell_lt h1)).trans h1, (hk _ (cell_lt h2)).trans h2, (hk _ (cell_lt h3)).trans h3, h4.keep hk⟩
theorem Cases.keep {A : Option Addr} {n : Nat} {l : List Cas} (h : Cases w A n l) (hk : ∀ p : Addr, p.block < w.heap.size → w'.cell? p = w.cell? p) : Cases w' A n l :=
  ⟨h.1, fun hn => by obtain ⟨b, o, e, hc⟩ := h.2 hn; exact ⟨b, o, e, fun j x hx => (hc j x hx).keep hk⟩⟩
theorem Cases.below {A : Option Addr} {n : Nat} {l : List Cas} (h : Cases w A n l) (hb : Below w.heap.size w w') : Cases w' A n l := h.keep fun _ hp => hb.cell hp
theorem Cases.nil (w : World) (A : Option Addr) : Cases w A 0 [] := ⟨rfl, fun h => absurd h (by omega)⟩
theorem Cases.at_ {A : Option Addr} {n : Nat} {l : List Cas} (h : Cases w A n l) {k : Nat} (hk : k < n) : ∃ b o x, A = some ⟨b, o, none⟩ ∧ l[k]? = some x ∧ CasAt w b (o + k * 3) x := by
  obtain ⟨b, o, e, hc⟩ := h.2 (by omega)
  have hl : k < l.length := by have := h.1; omega
  exact ⟨b, o, l[k], e, List.getElem?_eq_getElem hl, hc k _ (List.getElem?_eq_getElem hl)⟩
end

section
variable {H : Type} {enc : TypeId × Value → H} {W : World}

theorem cells3 : Try.prog.cellsOf 3 = 1 := by kernel_rfl
theorem cells23 : Try.prog.cellsOf 23 = 1 := by kernel_rfl
theorem cells35 : Try.prog.cellsOf 35 = 1 := by kernel_rfl
theorem cells50 : Try.prog.cellsOf 50 = 1 := by kernel_rfl
theorem cells66 : Try.prog.cellsOf 66 = 3 := by kernel_rfl
theorem cells37 : Try.prog.cellsOf 37 = 2 := by kernel_rfl

theorem open_cas {m : Nat} {b o : Nat} {cs : List Value} {x : DataW H × List MemPlace} (hcs : W.cells? 0 ⟨b, o, none⟩ 3 = some cs) (h : DataW.trod enc Try.prog W 0 (fun _ => true) true m 66 cs = some x)
    (hw : ∀ n ∈ x.1.weights Try.prog 66, n ≤ reachBytes) : ∃ y : Cas, CasAt W b o y ∧ y.ok := by
  obtain ⟨_, hl, hc⟩ := World.cells?_some hcs
  match cs, hl with
  | [c0, c1, c2], _ =>
    obtain ⟨y0, y1, y2, n, rfl, _, t0, t1, t2⟩ := Go.Deep.trod_struct3 Try.underlying66 h
    simp only [cells3, cells50, List.drop_zero, List.drop_succ_cons, List.take_succ_cons, List.take_zero] at t0 t1 t2
    obtain ⟨k, hk, rfl, wk⟩ := DataW.trod_int Try.underlying3 t0
    obtain ⟨q, hq, rfl, wq⟩ := DataW.trod_int Try.underlying3 t1
    obtain rfl : c0 = .int .i64 k := by simpa using hk
    obtain rfl : c1 = .int .i64 q := by simpa using hq
    have hs : ∃ A len cap, c2 = .slice A len cap := by
      rcases DataW.trod_slice Try.underlying50 t2 with ⟨h, _⟩ | ⟨a, len, cap, _, _, _, _, h, _⟩ <;> simp at h <;> exact ⟨_, _, _, h⟩
    obtain ⟨A, len, cap, rfl⟩ := hs
    obtain ⟨l, ⟨hi, hb⟩, h1, h2, h3⟩ := open_nums ⟨n, by simpa [Value.cells] using t2⟩
    have hlen := hi.len
    subst hlen
    have e0 := hc 0 (by omega)
    have e1 := hc 1 (by omega)
    have e2 := hc 2 (by omega)
    rw [Addr.add_lit'] at e0 e1 e2
    refine ⟨⟨k, q, l⟩, ⟨A, cap, e0, e1, e2, hi, h1, h2⟩, bounds_i64 wk, bounds_i64 wq, hb, ?_⟩
    rcases h3 with h3 | ⟨es, sp, hd, he⟩
    · rw [h3]; decide
    · have := hw ((es.length + sp.length) * Try.prog.bytesOf 3) (by
        rw [show y2.1 = .slice es sp from hd]
        simp [DataW.weights, Try.underlying66, Try.underlying50, DataW.weightsEach])
      rw [show Try.prog.bytesOf 3 = 8 by kernel_rfl] at this
      simp only [reachBytes] at this
      show l.length ≤ 140737488351232
      omega

theorem list_of {P : Nat → Cas → Prop} : ∀ n, (∀ i, i < n → ∃ y, P i y) → ∃ l : List Cas, l.length = n ∧ ∀ i x, l[i]? = some x → P i x
  | 0, _ => ⟨[], rfl, by simp⟩
  | n + 1, h => by
    obtain ⟨l, hl, hp⟩ := list_of n fun i hi => h i (by omega)
    obtain ⟨y, hy⟩ := h n (by omega)
    refine ⟨l ++ [y], by simp [hl], fun i x hx => ?_⟩
    by_cases hi : i < n
    · rw [List.getElem?_append_left (by omega)] at hx
      exact hp i x hx
    · have hlt := (List.getElem?_eq_some_iff.1 hx).1
      have : i = n := by simp at hlt; omega
      subst this
      rw [List.getElem?_append_right (by omega), hl, Nat.sub_self] at hx
      simp at hx
      exact hx ▸ hy

theorem weights_all {e : TypeId} {n : Nat} {d : DataW H} (hn : n ∈ d.weights Try.prog e) : ∀ {l : List (DataW H)}, d ∈ l → n ∈ DataW.weightsAll Try.prog e l
  | a :: l, h => by
    rw [DataW.weightsAll, List.mem_append]
    rcases List.mem_cons.1 h with rfl | h
    · exact .inl hn
    · exact .inr (weights_all hn h)

theorem open_corpus {base : Nat} {v : Value} {d : DataW H} {p : List MemPlace} (hval : Value.okWide Try.prog W .any base 37 v) (h : DataW.Trod enc Try.prog W 0 (fun _ => true) true 37 v d p)
    (hw : ∀ n ∈ d.weights Try.prog 37, n ≤ reachBytes) :
    ∃ (g : Nat) (A : Option Addr) (cap : Nat) (l : List Cas), v = .agg #[.int .u32 (g : Int), .slice A l.length cap] ∧ g < 4294967296 ∧ Cases W A l.length l ∧ l.length ≤ cap ∧ cap ≤ 9223372036854775807 ∧ ∀ x ∈ l, x.ok := by
  obtain ⟨cs, rfl, hsz⟩ := okWide_struct Try.underlying37 hval
  rw [cells37] at hsz
  obtain ⟨fuel, hf⟩ := h
  obtain ⟨l⟩ := cs
  match l, hsz with
  | [c0, c1], _ =>
    obtain ⟨y0, y1, n, hx, _, t0, t1⟩ := trod_struct2 Try.underlying37 hf
    simp only [Value.cells, cells23, cells35, List.drop_zero, List.drop_succ_cons, List.take_succ_cons, List.take_zero] at t0 t1
    obtain ⟨k, hk, rfl, wk⟩ := DataW.trod_int Try.underlying23 t0
    obtain rfl : c0 = .int .u32 k := by simpa using hk
    have hkb := bounds_u32 wk
    obtain ⟨g, rfl⟩ := Int.eq_ofNat_of_zero_le hkb.1
    rcases DataW.trod_slice Try.underlying35 t1 with ⟨hc, hy⟩ | ⟨a, len, cap, elems, rest, m, _, hc, hy, _, h1, h2, h3, h4, _⟩
    · obtain rfl : c1 = .slice none 0 0 := by simpa using hc
      exact ⟨g, none, 0, [], rfl, by omega, Cases.nil _ _, by simp, by omega, by simp⟩
    · obtain rfl : c1 = .slice (some a) len cap := by simpa using hc
      subst hy
      have hd : d = .agg [.lit (.int .u32 (g : Int)), .slice (elems.map (·.1)) (rest.map (·.1))] := (Prod.mk.inj hx).1
      subst hd
      by_cases hl0 : len = 0
      · subst hl0
        exact ⟨g, some a, cap, [], rfl, by omega, Cases.nil _ _, by simp, h2, by simp⟩
      have hspot : a = ⟨a.block, a.off, none⟩ := by
        have h5 := h4 0 (by omega)
        rw [cells66, List.getElem?_eq_getElem (by omega), Option.bind_eq_some_iff] at h5
        obtain ⟨cs, hcs, ht⟩ := h5
        obtain ⟨_, hl, hc⟩ := World.cells?_some hcs
        have hc0 := hc 0 (by omega)
        rw [List.getElem?_eq_getElem (by omega)] at hc0
        obtain ⟨b, off, spot⟩ := a
        have : spot = none := by simpa [Addr.add] using World.cell?_spot hc0
        rw [this]
      obtain ⟨b, o⟩ : ∃ b o, a = ⟨b, o, none⟩ := ⟨_, _, hspot⟩
      obtain ⟨o, rfl⟩ := o
      have each : ∀ i, i < len → ∃ y : Cas, CasAt W b (o + i * 3) y ∧ y.ok := by
        intro i hi
        have h5 := h4 i hi
        rw [cells66, List.getElem?_eq_getElem (by omega), Option.bind_eq_some_iff, Addr.add_lit'] at h5
        obtain ⟨cs, hcs, ht⟩ := h5
        refine open_cas hcs ht fun n hn => hw n ?_
        rw [DataW.weights, Try.underlying37]
        simp only [DataW.weightsEach, List.map, List.append_nil, List.mem_append]
        refine .inr ?_
        rw [DataW.weights, Try.underlying35]
        refine List.mem_cons_of_mem _ (List.mem_append.2 (.inl (weights_all hn (List.mem_map.2 ⟨_, List.getElem_mem (by omega), rfl⟩))))
      obtain ⟨l, hl, hp⟩ := list_of len each
      subst hl
      refine ⟨g, some ⟨b, o, none⟩, cap, l, rfl, by omega, ⟨rfl, fun _ => ⟨b, o, rfl, fun j x hx => (hp j x hx).1⟩⟩, h1, h2, fun x hx => ?_⟩
      obtain ⟨i, hi⟩ := List.getElem?_of_mem hx
      exact (hp i x hi).2
end
end Go.Proofs.Ytbfefjlilmoigaa
