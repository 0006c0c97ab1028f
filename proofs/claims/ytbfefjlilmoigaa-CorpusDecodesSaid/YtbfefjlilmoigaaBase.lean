/- Words and small laws that the walks of this seat share: bits of numbers, slices that read as lists. -/
import Derived.Test.YtbfefjlilmoigaaRows
import Derived.Test.YtbfefjlilmoigaaCrc
import Derived.WalkKit
import Derived.WalkLawsBesides
import Derived.WalkSpells
import Derived.Laws.BytesArg
import Derived.Maps.AppendAt
namespace Go.Proofs.Ytbfefjlilmoigaa
open Go.RowKit
set_option linter.unusedVariables false

theorem hide {p : Prop} (h : p) : Hid p := h

theorem ret_int {k : IntKind} {a b : Int} (h : a = b) : Ending.returned (.int k a) = .returned (.int k b) := by rw [h]

/-! Bits -/
theorem and_one (m : Nat) (h : m < 4294967296) : bits .and .u32 (m : Int) 1 = ((m % 2 : Nat) : Int) := by
  have := u32_and_nat m 1 h (by omega)
  rw [show ((1 : Nat) : Int) = 1 from rfl] at this
  rw [this, Nat.and_one_is_mod]
theorem and_15 (m : Nat) (h : m < 4294967296) : bits .and .u32 (m : Int) 15 = ((m % 16 : Nat) : Int) := by
  have := u32_and_nat m 15 h (by omega)
  rw [show ((15 : Nat) : Int) = 15 from rfl] at this
  rw [this, show (15 : Nat) = 2 ^ 4 - 1 from rfl, Nat.and_two_pow_sub_one_eq_mod]
theorem xor_poly (m : Nat) (h : m < 4294967296) : bits .xor .u32 (m : Int) 3988292384 = ((m ^^^ 3988292384 : Nat) : Int) :=
  u32_xor_nat m 3988292384 h (by omega)
theorem not_u32 (m : Nat) (h : m < 4294967296) : bits .xor .u32 IntKind.u32.max (m : Int) = ((4294967295 - m : Nat) : Int) := by
  have h1 := u32_xor_nat 4294967295 m (by omega) h
  rw [show ((4294967295 : Nat) : Int) = IntKind.u32.max from rfl] at h1
  rw [h1]
  have h2 := Crc.not_xor m h
  have h3 : 4294967295 ^^^ m = 4294967295 - m := by
    rw [← h2, Nat.xor_assoc, Nat.xor_comm _ m, ← Nat.xor_assoc, Nat.xor_self, Nat.zero_xor]
    rw [h2]
  rw [h3]

/-! A slice that reads as a list of one-cell values. -/
def Elems (w : World) (A : Option Addr) (n : Nat) (xs : List Value) : Prop :=
  xs.length = n ∧ (0 < n → ∃ b o, A = some ⟨b, o, none⟩ ∧ ∀ j u, xs[j]? = some u → w.cell? ⟨b, o + j, none⟩ = some u)

theorem cell_lt {w : World} {a : Addr} {u : Value} (h : w.cell? a = some u) : a.block < w.heap.size := World.block_lt_of_cell? w a h

section
variable {w w' : World} {A : Option Addr} {n : Nat} {xs : List Value}

theorem Elems.keep (h : Elems w A n xs) (hk : ∀ p : Addr, p.block < w.heap.size → w'.cell? p = w.cell? p) : Elems w' A n xs :=
  ⟨h.1, fun hn => by
    obtain ⟨b, o, e, hc⟩ := h.2 hn
    exact ⟨b, o, e, fun j u hu => by
      have h1 := hc j u hu
      rw [hk _ (cell_lt h1)]; exact h1⟩⟩

theorem Elems.below (h : Elems w A n xs) (hb : Below w.heap.size w w') : Elems w' A n xs := h.keep fun _ hp => hb.cell hp

theorem Elems.at_ (h : Elems w A n xs) {k : Nat} (hk : k < n) : ∃ b o u, A = some ⟨b, o, none⟩ ∧ xs[k]? = some u ∧ w.cell? ⟨b, o + k, none⟩ = some u := by
  obtain ⟨b, o, e, hc⟩ := h.2 (by omega)
  have hl : k < xs.length := by have := h.1; omega
  exact ⟨b, o, xs[k], e, List.getElem?_eq_getElem hl, hc k _ (List.getElem?_eq_getElem hl)⟩

theorem Elems.nil (w : World) (A : Option Addr) : Elems w A 0 [] := ⟨rfl, fun h => absurd h (by omega)⟩

theorem Elems.of_own {base : Nat} {e : TypeId} {c : Nat} (h : w.ownsRow base e 1 (.slice A n c) n xs) : Elems w A n xs := by
  refine ⟨by simpa using h.1, fun hn => ?_⟩
  have hl := h.1
  rcases h.2 with ⟨_, h0⟩ | ⟨g, cap, cur, hv, _, hg, hcap, _, hcs, htake⟩
  · omega
  · injection hv with hA
    subst hA
    refine ⟨g, 0, rfl, fun j u hu => ?_⟩
    rw [Nat.zero_add, cell_of_row w g j cur e (0, 0) hg]
    rw [← htake, List.getElem?_take] at hu
    split at hu
    · simpa using hu
    · cases hu
end

/-! Bytes -/
def u8s (bs : List UInt8) : List Value := bs.map fun x => .int .u8 (x.toNat : Int)
def nums (bs : List UInt8) : List Nat := bs.map UInt8.toNat

theorem nums_lt (bs : List UInt8) : ∀ x ∈ nums bs, x < 256 := by
  intro x hx
  obtain ⟨y, _, rfl⟩ := List.mem_map.1 hx
  exact y.toNat_lt
theorem nums_append (a b : List UInt8) : nums (a ++ b) = nums a ++ nums b := List.map_append
theorem u8s_append (a b : List UInt8) : u8s (a ++ b) = u8s a ++ u8s b := List.map_append
theorem u8s_length (a : List UInt8) : (u8s a).length = a.length := List.length_map _
theorem nums_length (a : List UInt8) : (nums a).length = a.length := List.length_map _

/-- A slice of bytes that came from wherever. -/
def Bytes (w : World) (A : Option Addr) (n : Nat) (bs : List UInt8) : Prop := Elems w A n (u8s bs)

theorem Bytes.len {w : World} {A : Option Addr} {n : Nat} {bs : List UInt8} (h : Bytes w A n bs) : bs.length = n := by have := h.1; rwa [u8s_length] at this
theorem Bytes.below {w w' : World} {A : Option Addr} {n : Nat} {bs : List UInt8} (h : Bytes w A n bs) (hb : Below w.heap.size w w') : Bytes w' A n bs := Elems.below h hb
theorem Bytes.at_ {w : World} {A : Option Addr} {n : Nat} {bs : List UInt8} (h : Bytes w A n bs) {k : Nat} (hk : k < n) :
    ∃ b o x, A = some ⟨b, o, none⟩ ∧ bs[k]? = some x ∧ w.cell? ⟨b, o + k, none⟩ = some (.int .u8 (x.toNat : Int)) := by
  obtain ⟨b, o, u, e, hu, hc⟩ := Elems.at_ h hk
  simp only [u8s, List.getElem?_map, Option.map_eq_some_iff] at hu
  obtain ⟨x, hx, rfl⟩ := hu
  exact ⟨b, o, x, e, hx, hc⟩

/-! A block that is known whole. -/
def Row (w : World) (g : Nat) (t : TypeId) (cs : Array Value) : Prop := w.heap[g]? = some (.cells cs t (0, 0))

section
variable {w w' : World} {g : Nat} {t : TypeId} {cs : Array Value}
theorem Row.lt (h : Row w g t cs) : g < w.heap.size := by
  rcases Nat.lt_or_ge g w.heap.size with hlt | hge
  · exact hlt
  · unfold Row at h; rw [Array.getElem?_eq_none hge] at h; cases h
theorem Row.cell (h : Row w g t cs) (i : Nat) : w.cell? ⟨g, i, none⟩ = cs[i]? := cell_of_row w g i cs t (0, 0) h
theorem Row.frozen (h : Row w g t cs) (i : Nat) : w.frozen? ⟨g, i, none⟩ = false := by
  unfold Row at h
  simp [World.frozen?, h]
theorem Row.new (w : World) (t : TypeId) (cs : Array Value) : Row (w.alloc (.cells cs t)) w.heap.size t cs := heap_alloc_new w _
theorem Row.alloc (h : Row w g t cs) (o : Obj) : Row (w.alloc o) g t cs := (Below.heap_alloc w o g h.lt).trans h
theorem Row.put (h : Row w g t cs) (i : Nat) (u : Value) : Row (w.setCell ⟨g, i, none⟩ u) g t (cs.setIfInBounds i u) := by
  unfold Row at h ⊢
  simp [World.setCell, Array.getElem?_modify, h]
theorem Row.far (h : Row w g t cs) {p : Addr} (hp : g ≠ p.block) (u : Value) : Row (w.setCell p u) g t cs := (Below.heap_setCell w p u g hp).trans h
theorem Row.below {B : Nat} (h : Row w g t cs) (hb : Below B w w') (hg : g < B) : Row w' g t cs := (hb.block g hg).trans h
end

theorem below_both {B : Nat} {a b c : World} (h : Below B a b) (k : Below b.heap.size b c) (hB : B ≤ b.heap.size) : Below B a c := h.trans (k.mono hB)

/-! What a call owns. -/
section
variable {w w' : World} {base base' : Nat} {e : TypeId} {size n : Nat} {v : Value} {xs : List Value}
theorem own_below (h : w.ownsRow base e size v n xs) (hb : Below w.heap.size w w') : w'.ownsRow base e size v n xs := by
  refine ⟨h.1, ?_⟩
  rcases h.2 with h2 | ⟨g, cap, cur, hv, hg, hh, r⟩
  · exact Or.inl h2
  · exact Or.inr ⟨g, cap, cur, hv, hg, (hb.block g (Array.getElem?_eq_some_iff.1 hh).1).trans hh, r⟩
theorem own_mono (h : w.ownsRow base e size v n xs) (hb : base' ≤ base) : w.ownsRow base' e size v n xs := by
  refine ⟨h.1, ?_⟩
  rcases h.2 with h2 | ⟨g, cap, cur, hv, hg, r⟩
  · exact Or.inl h2
  · exact Or.inr ⟨g, cap, cur, hv, by omega, r⟩
/-- The value that a call owns is a slice. -/
theorem own_form (h : w.ownsRow base e 1 v n xs) : ∃ A c, v = .slice A n c ∧ Elems w A n xs ∧ n ≤ c ∧ c ≤ maxLen := by
  rcases h.2 with ⟨rfl, rfl⟩ | ⟨g, cap, cur, rfl, hg, hh, h1, h2, r⟩
  · exact ⟨none, 0, rfl, Elems.of_own h, Nat.le_refl _, by unfold maxLen; omega⟩
  · exact ⟨_, cap, rfl, Elems.of_own h, h1, h2⟩
end

theorem Addr.add_lit' (b o j : Nat) : (⟨b, o, none⟩ : Addr).add j = ⟨b, o + j, none⟩ := by unfold Addr.add; split <;> simp_all

/-- A block that has just been laid, read as a slice from its head on. -/
theorem Elems.new (w : World) (cs : List Value) (e : TypeId) (n : Nat) (hn : cs.length = n) : Elems (w.alloc (.cells cs.toArray e)) (some ⟨w.heap.size, 0, none⟩) n cs :=
  ⟨hn, fun _ => ⟨_, _, rfl, fun j u hu => by
    rw [Nat.zero_add, cell_of_row _ w.heap.size j cs.toArray e (0, 0) (heap_alloc_new w _)]
    simpa using hu⟩⟩

section
variable {P : Program} (w : World)

/-- append onto a row of the call's own, the source read as a list of cells (k: how many cells it has). -/
theorem run_app (base : Nat) (t ty e : TypeId) (i : TypeInfo) (z : Value) (size bytes : Nat) (ht : P.underlying t = some (.slice e)) (hi : P.info? e = some i) (hz : i.zero = some z)
    (hsize : i.size = size) (hby : i.bytes = bytes) (hzs : z.cells.size = size) (hsz : 0 < size)
    (v : Value) (n : Nat) (xs : List Value) (hown : w.ownsRow base e size v n xs)
    (A : Option Addr) (m c : Nat) (news : List Value) (hr : Elems w A (m * size) news) (h1 : ∀ u ∈ news, u.oneCell' = true)
    (h63 : n + m ≤ maxLen) (hbytes : (n + m) * bytes ≤ 140737488355328) (hbase : base ≤ w.heap.size) :
    ∃ v' w', (Builtin.append_ #[t, t] ty #[v, .slice A m c]).run P w = .ok v' w' ∧ w'.ownsRow base e size v' (n + m) (xs ++ news) ∧ Below base w w' := by
  have hl : news.length = m * size := hr.1
  by_cases hm : m = 0
  · subst hm
    have hn : news = [] := List.eq_nil_of_length_eq_zero (by simpa using hl)
    subst hn
    refine ⟨v, w, ?_, by simpa using hown, Below.refl _ _⟩
    rcases hown.2 with ⟨rfl, rfl⟩ | ⟨g, cap, cur, rfl, _, _, hnc, _⟩
    · cases A <;> simp [Builtin.append_, run_underlying ht, sizeOf, typeInfo, hi, Builtin.lenOf, Builtin.firstCells, loadCells, loadCellsFrom]
    · cases A <;> simp [Builtin.append_, run_underlying ht, sizeOf, typeInfo, hi, Builtin.lenOf, Builtin.firstCells, hnc, storeCells, loadCells, loadCellsFrom]
  · obtain ⟨b, o, rfl, hc⟩ := hr.2 (Nat.mul_pos (by omega) hsz)
    obtain ⟨v', w', hrun, h2, h3, _, _⟩ := run_append_own_at (P := P) w base t ty e i z size bytes ht hi hz hsize hby hzs hsz v n xs hown ⟨b, o, none⟩ m c news hl
      (fun j u hu => by rw [Addr.add_lit']; exact hc j u hu) h1 h63 hbytes hbase
    exact ⟨v', w', hrun, h2, (Below.refl _ _).grown h3 hbase fun k hk => (hown.lt k hk).1⟩

theorem wpList_app {ops : Array Oper} {rest : List Oper} {o : Oper} {a : Act} {Q : Exit → Act → World → Prop} (hgd : o.guard = none) (s x : Operand) (t : TypeId)
    (ho : o.op = .call { callee := .builtin .append, args := #[s, x], argTypes := #[t, t] })
    (base : Nat) (e : TypeId) (i : TypeInfo) (z : Value) (size bytes : Nat) (ht : P.underlying t = some (.slice e)) (hi : P.info? e = some i) (hz : i.zero = some z)
    (hsize : i.size = size) (hby : i.bytes = bytes) (hzs : z.cells.size = size) (hsz : 0 < size)
    (v : Value) (n : Nat) (xs : List Value) (hs : a.eval s = v) (hown : w.ownsRow base e size v n xs)
    (A : Option Addr) (m c : Nat) (news : List Value) (hx : a.eval x = .slice A m c) (hr : Elems w A (m * size) news) (h1 : ∀ u ∈ news, u.oneCell' = true)
    (h63 : n + m ≤ maxLen) (hbytes : (n + m) * bytes ≤ 140737488355328) (hbase : base ≤ w.heap.size)
    (h : ∀ v' w', w'.ownsRow base e size v' (n + m) (xs ++ news) → Below base w w' → wpList P ops Q rest (a.put o.dst v') w') : wpList P ops Q (o :: rest) a w :=
  wpList_plain hgd fun K hK => by
    obtain ⟨v', w', hrun, h2, h3⟩ := run_app (P := P) w base t o.type e i z size bytes ht hi hz hsize hby hzs hsz v n xs hown A m c news hr h1 h63 hbytes hbase
    unfold Oper.wp execOp
    simp only [ho, resolve, invoke, builtin, Sem.run_bind, Sem.run_pure, Result.andThen_ok, List.map_toArray, List.map_cons, List.map_nil, hs, hx, hrun]
    exact hK _ _ (h v' w' h2 h3)
end

/-! Bytes: this seat's types: 22 is []byte, 5 byte, 9 string. -/
theorem info5 : (Try.prog.info? 5).map (fun i => (i.zero, i.size, i.bytes)) = some (some (.int .u8 0), 1, 1) := by kernel_rfl

theorem u8s_one (bs : List UInt8) : ∀ u ∈ u8s bs, u.oneCell' = true := by
  intro u hu
  obtain ⟨x, _, rfl⟩ := List.mem_map.1 hu
  rfl

/-- w owns v, a slice of bytes, from block 'base' on. -/
def Own (w : World) (base : Nat) (v : Value) (bs : List UInt8) : Prop := w.ownsRow base 5 1 v bs.length (u8s bs)

section
variable {w w' : World} {base base' : Nat} {v : Value} {bs : List UInt8}
theorem Own.below (h : Own w base v bs) (hb : Below w.heap.size w w') : Own w' base v bs := own_below h hb
theorem Own.mono (h : Own w base v bs) (hb : base' ≤ base) : Own w base' v bs := own_mono h hb
theorem Own.form (h : Own w base v bs) : ∃ A c, v = .slice A bs.length c ∧ Bytes w A bs.length bs ∧ bs.length ≤ c ∧ c ≤ maxLen := own_form h
theorem Own.nil_ (w : World) (base : Nat) : Own w base (.slice none 0 0) [] := World.ownsRow_nil w base 5 1
theorem Own.empty (w : World) : Own (w.alloc (.cells #[] 5)) w.heap.size (.slice (some ⟨w.heap.size, 0, none⟩) 0 0) [] := World.ownsRow_made w #[] 0 (Nat.le_refl _) (Nat.zero_le _) rfl
end

theorem appB {w : World} {ops : Array Oper} {rest : List Oper} {o : Oper} {a : Act} {Q : Exit → Act → World → Prop} (base : Nat) {v : Value} {bs : List UInt8} (hown : Own w base v bs) {A : Option Addr} {m : Nat} {news : List UInt8} (hr : Bytes w A m news)
    (hlen : bs.length + m ≤ 1000000000000) (hbase : base ≤ w.heap.size) (hgd : o.guard = none) (s x : Operand)
    (ho : o.op = .call { callee := .builtin .append, args := #[s, x], argTypes := #[22, 22] }) (hs : a.eval s = v) (c : Nat) (hx : a.eval x = .slice A m c)
    (h : ∀ v' w', Own w' base v' (bs ++ news) → Below base w w' → wpList Try.prog ops Q rest (a.put o.dst v') w') : wpList Try.prog ops Q (o :: rest) a w := by
  obtain ⟨i0, hi, hz0, hz1, hz2⟩ := info_parts info5
  have hm : news.length = m := hr.len
  refine wpList_app w hgd s x 22 ho base 5 i0 (.int .u8 0) 1 1 Try.underlying22 hi hz0 hz1 hz2 rfl (by decide) v bs.length (u8s bs) hs hown A m c (u8s news) hx (by rw [Nat.mul_one]; exact hr) (u8s_one _)
    (by unfold maxLen; omega) (by omega) hbase fun v' w' h1 h2 => h v' w' ?_ h2
  unfold Own
  rw [List.length_append, u8s_append, hm]
  exact h1

theorem Bytes.convert {w : World} {A : Option Addr} {n : Nat} {bs : List UInt8} (h : Bytes w A n bs) (c : Nat) : (Go.convert 22 9 (.slice A n c)).run Try.prog w = .ok (.string ⟨bs.toArray⟩) w := by
  have hl := h.len
  by_cases hn : n = 0
  · subst hn
    obtain rfl : bs = [] := List.eq_nil_of_length_eq_zero hl
    rw [run_convert_bytes_string w 22 9 5 A 0 c Try.underlying22 Try.underlying5 Try.underlying9]
    cases A <;> simp [Conv.bytesToString, loadCells]
    all_goals rfl
  · obtain ⟨b, o, rfl, hc⟩ := h.2 (by omega)
    have h1 := run_convert_bytes_arg (P := Try.prog) w 22 5 Try.underlying22 Try.underlying5 b o n c (bs.map fun x => (x.toNat : Int)) (by simpa using hl) (fun i hi => by
      have hib : i < bs.length := by omega
      rw [hc i (.int .u8 (bs[i].toNat : Int)) (by simp [u8s, List.getElem?_map, List.getElem?_eq_getElem hib])]
      simp [List.getD, List.getElem?_eq_getElem hib]) 9 Try.underlying9
    rw [h1]
    congr 2
    unfold strOfNums
    congr 2
    rw [List.map_map]
    conv => rhs; rw [← List.map_id bs]
    refine List.map_congr_left fun x _ => ?_
    simp

/-- The four bytes of a sum. -/
def leb (s : Nat) : List UInt8 := [UInt8.ofNat (s % 256), UInt8.ofNat (s / 256 % 256), UInt8.ofNat (s / 65536 % 256), UInt8.ofNat (s / 16777216)]

theorem u8s_leb (s : Nat) (h : s < 4294967296) : u8s (leb s) = [.int .u8 ((s : Int) % 256), .int .u8 ((s : Int) / 256 % 256), .int .u8 ((s : Int) / 65536 % 256), .int .u8 ((s : Int) / 16777216)] := by
  simp [u8s, leb]
  omega
theorem nums_leb (s : Nat) (h : s < 4294967296) : nums (leb s) = Crc.le s := by
  simp [nums, leb, Crc.le]
theorem bytes_leb (w : World) (s : Nat) (h : s < 4294967296) : Bytes (w.alloc (.cells #[.int .u8 ((s : Int) % 256), .int .u8 ((s : Int) / 256 % 256), .int .u8 ((s : Int) / 65536 % 256), .int .u8 ((s : Int) / 16777216)] 5)) (some ⟨w.heap.size, 0, none⟩) 4 (leb s) := by
  unfold Bytes
  rw [u8s_leb s h]
  exact Elems.new w _ 5 4 rfl

theorem below_alloc (w : World) (o : Obj) : Below w.heap.size w (w.alloc o) := (Below.refl _ _).alloc (Nat.le_refl _) _

/-- What a call owns, byte by byte: read, and written. -/
theorem Own.cell {w : World} {base g n c : Nat} {bs : List UInt8} (h : w.ownsRow base 5 1 (.slice (some ⟨g, 0, none⟩) n c) n (u8s bs)) {j : Nat} {x : UInt8} (hx : bs[j]? = some x) :
    w.cell? ⟨g, j, none⟩ = some (.int .u8 (x.toNat : Int)) ∧ w.frozen? ⟨g, j, none⟩ = false ∧ base ≤ g := by
  rcases h.2 with ⟨hh, _⟩ | ⟨g', cap, cur, hh, hg, hrow, _, _, hcs, htake⟩
  · cases hh
  · injection hh with hh
    injection hh with hh
    injection hh with hh
    subst hh
    have hr : Row w g 5 cur := hrow
    have hj : (u8s bs)[j]? = some (.int .u8 (x.toNat : Int)) := by simp [u8s, hx]
    refine ⟨?_, hr.frozen j, hg⟩
    rw [hr.cell j]
    rw [← htake, List.getElem?_take] at hj
    split at hj
    · simpa using hj
    · cases hj

theorem Own.put {w : World} {base g n c : Nat} {bs : List UInt8} (h : w.ownsRow base 5 1 (.slice (some ⟨g, 0, none⟩) n c) n (u8s bs)) (j : Nat) (x : UInt8) :
    (w.setCell ⟨g, j, none⟩ (.int .u8 (x.toNat : Int))).ownsRow base 5 1 (.slice (some ⟨g, 0, none⟩) n c) n (u8s (bs.set j x)) := by
  refine ⟨by have := h.1; simpa [u8s] using this, ?_⟩
  rcases h.2 with ⟨hh, _⟩ | ⟨g', cap, cur, hh, hg, hrow, h1, h2, hcs, htake⟩
  · cases hh
  · have hh' := hh
    injection hh with hh
    injection hh with hh
    injection hh with hh
    subst hh
    have hr : Row w g 5 cur := hrow
    refine Or.inr ⟨g, cap, _, hh', hg, hr.put j _, h1, h2, by simpa using hcs, ?_⟩
    rw [Array.toList_setIfInBounds, List.take_set, htake]
    simp [u8s, List.map_set]

end Go.Proofs.Ytbfefjlilmoigaa
