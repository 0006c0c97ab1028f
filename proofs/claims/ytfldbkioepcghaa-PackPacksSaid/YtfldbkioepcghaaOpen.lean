/- Arguments as data: how a table, and a packed one, that came in reads as lists. -/
import Derived.Test.YtfldbkioepcghaaT11
import Derived.ProofKit
import Derived.OpenShut
import Derived.ShutString
import Derived.ChangeOld
import Derived.SizedLaws
namespace Go.Proofs.Ytfldbkioepcghaa
open Go.ChangeShapes Go.WideShapes Go.ChangeAt Go.RowKit
set_option linter.unusedVariables false

theorem own : ownKnob Try.prog.godebug = none := by kernel_rfl
theorem laidOut : laidOutB Try.prog = true := by kernel_rfl
theorem cells3 : Try.prog.cellsOf 3 = 1 := by kernel_rfl
theorem cells22 : Try.prog.cellsOf 22 = 1 := by kernel_rfl
theorem cells23 : Try.prog.cellsOf 23 = 1 := by kernel_rfl
theorem cells25 : Try.prog.cellsOf 25 = 2 := by kernel_rfl
theorem cells29 : Try.prog.cellsOf 29 = 1 := by kernel_rfl
theorem cells30 : Try.prog.cellsOf 30 = 1 := by kernel_rfl
theorem cells31 : Try.prog.cellsOf 31 = 1 := by kernel_rfl
theorem cells33 : Try.prog.cellsOf 33 = 6 := by kernel_rfl
theorem cells43 : Try.prog.cellsOf 43 = 2 := by kernel_rfl
theorem cells47 : Try.prog.cellsOf 47 = 1 := by kernel_rfl
theorem cells54 : Try.prog.cellsOf 54 = 3 := by kernel_rfl
theorem cells59 : Try.prog.cellsOf 59 = 2 := by kernel_rfl
theorem cells61 : Try.prog.cellsOf 61 = 1 := by kernel_rfl
theorem cells62 : Try.prog.cellsOf 62 = 1 := by kernel_rfl

section
variable {H : Type} {enc : TypeId × Value → H} {W : World}

theorem list_of {α : Type} {P : Nat → α → Prop} : ∀ n, (∀ i, i < n → ∃ y, P i y) → ∃ l : List α, l.length = n ∧ ∀ i x, l[i]? = some x → P i x
  | 0, _ => ⟨[], rfl, by simp⟩
  | n + 1, h => by
    obtain ⟨l, hl, hp⟩ := list_of n fun i hi => h i (by omega)
    obtain ⟨y, hy⟩ := h n (by omega)
    refine ⟨l ++ [y], by simp [hl], fun i x hx => ?_⟩
    by_cases hi : i < n
    · rw [List.getElem?_append_left (by omega)] at hx
      exact hp i x hx
    · have hlt := (List.getElem?_eq_some_iff.1 hx).1
      have : i = n := by simp at hlt; omega
      subst this
      rw [List.getElem?_append_right (by omega), hl, Nat.sub_self] at hx
      simp at hx
      exact hx ▸ hy

/-- What the cells of one element read as. -/
def Reads {α : Type} (enc : TypeId × Value → H) (W : World) (e k : Nat) (f : α → List Value) : Prop :=
  ∀ (m : Nat) (cs : List Value) (x : DataW H × List MemPlace), cs.length = k → DataW.trod enc Try.prog W 0 (fun _ => true) true m e cs = some x → ∃ y : α, cs = f y

theorem reads3 : Reads enc W 3 1 f1 := fun m cs x hl h => by
  obtain ⟨n, rfl, _⟩ := DataW.trod_int Try.underlying3 h
  exact ⟨n, rfl⟩
theorem reads43 : Reads enc W 43 2 f2 := fun m cs x hl h => by
  obtain ⟨y0, y1, n, rfl, _, t0, t1⟩ := trod_struct2 Try.underlying43 h
  match cs, hl with
  | [c0, c1], _ =>
    simp only [cells3, List.drop_zero, List.drop_succ_cons, List.take_succ_cons, List.take_zero] at t0 t1
    obtain ⟨a, ha, _⟩ := DataW.trod_int Try.underlying3 t0
    obtain ⟨b, hb, _⟩ := DataW.trod_int Try.underlying3 t1
    obtain rfl : c0 = .int .i64 a := by simpa using ha
    obtain rfl : c1 = .int .i64 b := by simpa using hb
    exact ⟨(a, b), rfl⟩
theorem reads59 : Reads enc W 59 2 f2 := fun m cs x hl h => by
  obtain ⟨y0, y1, n, rfl, _, t0, t1⟩ := trod_struct2 Try.underlying59 h
  match cs, hl with
  | [c0, c1], _ =>
    simp only [cells3, List.drop_zero, List.drop_succ_cons, List.take_succ_cons, List.take_zero] at t0 t1
    obtain ⟨a, ha, _⟩ := DataW.trod_int Try.underlying3 t0
    obtain ⟨b, hb, _⟩ := DataW.trod_int Try.underlying3 t1
    obtain rfl : c0 = .int .i64 a := by simpa using ha
    obtain rfl : c1 = .int .i64 b := by simpa using hb
    exact ⟨(a, b), rfl⟩
theorem reads54 : Reads enc W 54 3 f3 := fun m cs x hl h => by
  obtain ⟨y0, y1, n, rfl, _, t0, t1⟩ := trod_struct2 Try.underlying54 h
  match cs, hl with
  | [c0, c1, c2], _ =>
    simp only [cells3, cells43, List.drop_zero, List.drop_succ_cons, List.take_succ_cons, List.take_zero] at t0 t1
    obtain ⟨a, ha, _⟩ := DataW.trod_int Try.underlying3 t0
    obtain ⟨y, hy⟩ := reads43 _ _ _ rfl t1
    obtain rfl : c0 = .int .i64 a := by simpa using ha
    exact ⟨(a, y), by rw [hy]; rfl⟩

theorem spot_none {a : Addr} {k : Nat} {cs : List Value} (hk : 0 < k) (h : W.cells? 0 a k = some cs) : ∃ b o, a = ⟨b, o, none⟩ := by
  obtain ⟨_, hl, hc⟩ := World.cells?_some h
  have hc0 := hc 0 hk
  rw [List.getElem?_eq_getElem (by omega)] at hc0
  obtain ⟨b, off, spot⟩ := a
  have : spot = none := by simpa [Addr.add] using World.cell?_spot hc0
  exact ⟨b, off, by rw [this]⟩

theorem open_row {α : Type} {f : α → List Value} {k t e : Nat} (ht : Try.prog.underlying t = some (.slice e)) (hc : Try.prog.cellsOf e = k) (hk0 : 0 < k) (hf : ∀ x, (f x).length = k) (he : Reads enc W e k f)
    {fuel : Nat} {c : Value} {x : DataW H × List MemPlace} (h : DataW.trod enc Try.prog W 0 (fun _ => true) true fuel t [c] = some x) :
    ∃ (A : Option Addr) (len cap : Nat) (l : List α), c = .slice A len cap ∧ In W k f A len l ∧ len ≤ cap ∧ cap ≤ 9223372036854775807 := by
  subst hc
  rcases DataW.trod_slice ht h with ⟨hcs, _⟩ | ⟨a, len, cap, elems, rest, m, _, hcs, _, _, h1, h2, h3, h4, _⟩
  · obtain rfl : c = .slice none 0 0 := by simpa using hcs
    exact ⟨none, 0, 0, [], rfl, In.nil _ _, Nat.le_refl _, by omega⟩
  · obtain rfl : c = .slice (some a) len cap := by simpa using hcs
    have h2' : cap ≤ 9223372036854775807 := h2
    by_cases hl0 : len = 0
    · subst hl0
      exact ⟨some a, 0, cap, [], rfl, In.nil _ _, h1, h2'⟩
    obtain ⟨b, o, rfl⟩ : ∃ b o, a = ⟨b, o, none⟩ := by
      have h5 := h4 0 (by omega)
      rw [List.getElem?_eq_getElem (by omega), Option.bind_eq_some_iff] at h5
      obtain ⟨cs, hcs, _⟩ := h5
      rw [Nat.zero_mul, show a.add 0 = a from by unfold Addr.add; split <;> simp_all] at hcs
      exact spot_none hk0 hcs
    have each : ∀ i, i < len → ∃ y : α, ∀ j u, (f y)[j]? = some u → W.cell? ⟨b, o + (i * Try.prog.cellsOf e + j), none⟩ = some u := by
      intro i hi
      have h5 := h4 i hi
      rw [List.getElem?_eq_getElem (by omega), Option.bind_eq_some_iff, Addr.add_lit'] at h5
      obtain ⟨cs, hcs, htr⟩ := h5
      obtain ⟨_, hl, hcc⟩ := World.cells?_some hcs
      obtain ⟨y, rfl⟩ := he _ _ _ hl htr
      refine ⟨y, fun j u hu => ?_⟩
      have hj := (List.getElem?_eq_some_iff.1 hu).1
      rw [hf] at hj
      have := hcc j hj
      rw [Addr.add_lit', hu, Nat.add_assoc] at this
      exact this
    obtain ⟨l, hl, hp⟩ := list_of len each
    refine ⟨some ⟨b, o, none⟩, len, cap, l, rfl, ⟨hl, by rw [flat_len hf, hl], fun _ => ⟨b, o, rfl, fun j u hu => ?_⟩⟩, h1, h2'⟩
    have hjl := (List.getElem?_eq_some_iff.1 hu).1
    rw [flat_len hf] at hjl
    have hdm : j / Try.prog.cellsOf e * Try.prog.cellsOf e + j % Try.prog.cellsOf e = j := Nat.div_add_mod' j _
    have hml := Nat.mod_lt j hk0
    have hdl : j / Try.prog.cellsOf e < l.length := by rw [Nat.div_lt_iff_lt_mul hk0]; exact hjl
    have hg := flat_get hf (List.getElem?_eq_getElem hdl) _ hml
    rw [hdm, hu] at hg
    have := hp _ _ (List.getElem?_eq_getElem hdl) _ _ hg.symm
    rw [hdm] at this
    exact this

theorem open_nest {α : Type} {f : α → List Value} {k t e ei : Nat} (ht : Try.prog.underlying t = some (.slice e)) (hc1 : Try.prog.cellsOf e = 1) (hte : Try.prog.underlying e = some (.slice ei)) (hc : Try.prog.cellsOf ei = k) (hk0 : 0 < k) (hf : ∀ x, (f x).length = k) (he : Reads enc W ei k f)
    {fuel : Nat} {c : Value} {x : DataW H × List MemPlace} (h : DataW.trod enc Try.prog W 0 (fun _ => true) true fuel t [c] = some x) :
    ∃ (A : Option Addr) (len cap : Nat) (ll : List (List α)), c = .slice A len cap ∧ Nest W k f A len ll ∧ len ≤ cap ∧ cap ≤ 9223372036854775807 := by
  rcases DataW.trod_slice ht h with ⟨hcs, _⟩ | ⟨a, len, cap, elems, rest, m, _, hcs, _, _, h1, h2, h3, h4, _⟩
  · obtain rfl : c = .slice none 0 0 := by simpa using hcs
    exact ⟨none, 0, 0, [], rfl, Nest.nil _ _, Nat.le_refl _, by omega⟩
  · obtain rfl : c = .slice (some a) len cap := by simpa using hcs
    have h2' : cap ≤ 9223372036854775807 := h2
    rw [hc1] at h4
    by_cases hl0 : len = 0
    · subst hl0
      exact ⟨some a, 0, cap, [], rfl, Nest.nil _ _, h1, h2'⟩
    obtain ⟨b, o, rfl⟩ : ∃ b o, a = ⟨b, o, none⟩ := by
      have h5 := h4 0 (by omega)
      rw [List.getElem?_eq_getElem (by omega), Option.bind_eq_some_iff] at h5
      obtain ⟨cs, hcs, _⟩ := h5
      rw [Nat.zero_mul, show a.add 0 = a from by unfold Addr.add; split <;> simp_all] at hcs
      exact spot_none (by omega) hcs
    have each : ∀ i, i < len → ∃ row : List α, ∃ A' c', W.cell? ⟨b, o + i, none⟩ = some (.slice A' row.length c') ∧ In W k f A' row.length row ∧ row.length ≤ c' ∧ c' ≤ 9223372036854775807 := by
      intro i hi
      have h5 := h4 i hi
      rw [List.getElem?_eq_getElem (by omega), Option.bind_eq_some_iff, Addr.add_lit', Nat.mul_one] at h5
      obtain ⟨cs, hcs, htr⟩ := h5
      obtain ⟨_, hl, hcc⟩ := World.cells?_some hcs
      match cs, hl with
      | [u], _ =>
        have hc0 := hcc 0 (by omega)
        rw [Addr.add_lit', Nat.add_zero] at hc0
        obtain ⟨A', len', cap', l, rfl, hin, h6, h7⟩ := open_row hte hc hk0 hf he htr
        have hll := hin.1
        subst hll
        exact ⟨l, A', cap', hc0, hin, h6, h7⟩
    obtain ⟨ll, hl, hp⟩ := list_of len each
    exact ⟨some ⟨b, o, none⟩, len, cap, ll, rfl, ⟨hl, fun _ => ⟨b, o, rfl, hp⟩⟩, h1, h2'⟩

theorem open_table {base : Nat} {v : Value} {d : DataW H} {p : List MemPlace} (hval : Value.okWide Try.prog W .any base 25 v) (h : DataW.Trod enc Try.prog W 0 (fun _ => true) true 25 v d p) :
    ∃ (A B : Option Addr) (n m c d : Nat) (t : Tab), v = .agg #[.slice A n c, .slice B m d] ∧ TabAt W A B n m t ∧ n ≤ c ∧ c ≤ 9223372036854775807 ∧ m ≤ d ∧ d ≤ 9223372036854775807 := by
  obtain ⟨cs, rfl, hsz⟩ := okWide_struct Try.underlying25 hval
  rw [cells25] at hsz
  obtain ⟨fuel, hf⟩ := h
  obtain ⟨l⟩ := cs
  match l, hsz with
  | [c0, c1], _ =>
    obtain ⟨y0, y1, n, _, _, t0, t1⟩ := trod_struct2 Try.underlying25 hf
    simp only [Value.cells, cells22, cells23, List.drop_zero, List.drop_succ_cons, List.take_succ_cons, List.take_zero] at t0 t1
    obtain ⟨A, n0, c0', la, rfl, ha, a1, a2⟩ := open_nest (f := f2) (k := 2) Try.underlying22 cells47 Try.underlying47 cells43 (by omega) k2 reads43 t0
    obtain ⟨B, m0, d0', lb, rfl, hb, b1, b2⟩ := open_nest (f := f1) (k := 1) Try.underlying23 cells30 Try.underlying30 cells3 (by omega) k1 reads3 t1
    exact ⟨A, B, n0, m0, c0', d0', ⟨la, lb⟩, rfl, ⟨ha, hb⟩, a1, a2, b1, b2⟩

theorem six_fields {t : TypeId} {a b c d e g : Field} {fuel : Nat} {cs : List Value} {x : DataW H × List MemPlace} (ht : Try.prog.underlying t = some (.struct #[a, b, c, d, e, g])) (h : DataW.trod enc Try.prog W 0 (fun _ => true) true fuel t cs = some x) :
    ∃ n, ∀ f ∈ [a, b, c, d, e, g], ∃ y, DataW.trod enc Try.prog W 0 (fun _ => true) true n f.type ((cs.drop f.offset).take (Try.prog.cellsOf f.type)) = some y := by
  obtain ⟨xs, n, _, _, _, hlen, hx⟩ := DataW.trod_struct ht h
  refine ⟨n, fun f hf => ?_⟩
  obtain ⟨i, hi⟩ := List.getElem?_of_mem hf
  have hil := (List.getElem?_eq_some_iff.1 hi).1
  have hs : xs.length = 6 := hlen
  have := hx i f (by simpa using hi)
  rw [List.getElem?_eq_getElem (by rw [hs]; simpa using hil)] at this
  exact ⟨_, this⟩

theorem open_packed {base : Nat} {v : Value} {d : DataW H} {p : List MemPlace} (hval : Value.okWide Try.prog W .any base 33 v) (h : DataW.Trod enc Try.prog W 0 (fun _ => true) true 33 v d p) :
    ∃ (R O G T : Option Addr) (rn on gn tn rc oc gc tc : Nat) (q : Pk), v = .agg #[.int .i64 q.terms, .int .i64 q.nons, .slice R rn rc, .slice O on oc, .slice G gn gc, .slice T tn tc] ∧ PkAt W R O G T rn on gn tn q ∧
      rn ≤ 9223372036854775807 ∧ on ≤ 9223372036854775807 ∧ gn ≤ 9223372036854775807 ∧ tn ≤ 9223372036854775807 := by
  obtain ⟨cs, rfl, hsz⟩ := okWide_struct Try.underlying33 hval
  rw [cells33] at hsz
  obtain ⟨fuel, hf⟩ := h
  obtain ⟨l⟩ := cs
  match l, hsz with
  | [c0, c1, c2, c3, c4, c5], _ =>
    obtain ⟨n, hx⟩ := six_fields Try.underlying33 hf
    obtain ⟨y0, t0⟩ := hx _ (List.mem_cons_self ..)
    obtain ⟨y1, t1⟩ := hx _ (List.mem_cons_of_mem _ (List.mem_cons_self ..))
    obtain ⟨y2, t2⟩ := hx _ (List.mem_cons_of_mem _ (List.mem_cons_of_mem _ (List.mem_cons_self ..)))
    obtain ⟨y3, t3⟩ := hx _ (List.mem_cons_of_mem _ (List.mem_cons_of_mem _ (List.mem_cons_of_mem _ (List.mem_cons_self ..))))
    obtain ⟨y4, t4⟩ := hx _ (List.mem_cons_of_mem _ (List.mem_cons_of_mem _ (List.mem_cons_of_mem _ (List.mem_cons_of_mem _ (List.mem_cons_self ..)))))
    obtain ⟨y5, t5⟩ := hx _ (List.mem_cons_of_mem _ (List.mem_cons_of_mem _ (List.mem_cons_of_mem _ (List.mem_cons_of_mem _ (List.mem_cons_of_mem _ (List.mem_cons_self ..))))))
    simp only [Value.cells, cells3, cells29, cells30, cells31, List.drop_zero, List.drop_succ_cons, List.take_succ_cons, List.take_zero] at t0 t1 t2 t3 t4 t5
    obtain ⟨te, hte, _⟩ := DataW.trod_int Try.underlying3 t0
    obtain ⟨no, hno, _⟩ := DataW.trod_int Try.underlying3 t1
    obtain rfl : c0 = .int .i64 te := by simpa using hte
    obtain rfl : c1 = .int .i64 no := by simpa using hno
    obtain ⟨R, rn, rc, lr, rfl, hr, r1, r2⟩ := open_nest (f := f3) (k := 3) Try.underlying29 cells61 Try.underlying61 cells54 (by omega) k3 reads54 t2
    obtain ⟨O, on, oc, lo, rfl, ho, o1, o2⟩ := open_row (f := f1) (k := 1) Try.underlying30 cells3 (by omega) k1 reads3 t3
    obtain ⟨G, gn, gc, lg, rfl, hg, g1, g2⟩ := open_nest (f := f2) (k := 2) Try.underlying31 cells62 Try.underlying62 cells59 (by omega) k2 reads59 t4
    obtain ⟨T, tn, tc, lt, rfl, ht, s1, s2⟩ := open_row (f := f1) (k := 1) Try.underlying30 cells3 (by omega) k1 reads3 t5
    exact ⟨R, O, G, T, rn, on, gn, tn, rc, oc, gc, tc, ⟨te, no, lr, lo, lg, lt⟩, rfl, ⟨hr, ho, hg, ht⟩, by omega, by omega, by omega, by omega⟩
end
end Go.Proofs.Ytfldbkioepcghaa
