/- Walks over corpus: encode. -/
import Derived.Test.YtbfefjlilmoigaaC4
import Derived.Test.YtbfefjlilmoigaaT9
import Derived.Test.YtbfefjlilmoigaaT8
import Derived.Test.YtbfefjlilmoigaaSeq
import Derived.Lib.SlBytesConst
namespace Go.Proofs.Ytbfefjlilmoigaa
open Go.RowKit
set_option linter.unusedVariables false

def casB (x : Cas) : List UInt8 := Code.putN x.kind.toNat ++ (Code.putN x.note.toNat ++ listB x.word)
def headB (g : Nat) : List UInt8 := [71, 82, 68, 49] ++ leb g
def corB (g : Nat) (l : List Cas) : List UInt8 := headB g ++ (Code.putN l.length ++ l.flatMap casB)
/-- What a corpus is as bytes, and the error's number. -/
def encB (g : Nat) (l : List Cas) : List UInt8 × Nat :=
  if rightC l then (if 60000 < (frameB (corB g l)).length then ([], 5) else (frameB (corB g l), 0)) else ([], 1)
def EncPost (w : World) (r : List UInt8 × Nat) (e : Ending) (w' : World) : Prop :=
  ∃ v, e = .returned (.tuple #[v, .int .i64 (r.2 : Int)]) ∧ Own w' w.heap.size v r.1 ∧ Below w.heap.size w w'

/-- append onto a row that is full: it grows. -/
theorem appFull {w : World} {ops : Array Oper} {rest : List Oper} {o : Oper} {a : Act} {Q : Exit → Act → World → Prop} (base : Nat) {B : Addr} {n : Nat} {bs : List UInt8} (hf : Bytes w (some B) n bs) {A : Option Addr} {m : Nat} {news : List UInt8} (hr : Bytes w A m news)
    (hn : 0 < n) (hm : 0 < m) (hlen : n + m ≤ 1000000000000) (hbase : base ≤ w.heap.size) (hgd : o.guard = none) (s x : Operand)
    (ho : o.op = .call { callee := .builtin .append, args := #[s, x], argTypes := #[22, 22] }) (hs : a.eval s = .slice (some B) n n) (c : Nat) (hx : a.eval x = .slice A m c)
    (h : ∀ v' w', Own w' base v' (bs ++ news) → Below base w w' → wpList Try.prog ops Q rest (a.put o.dst v') w') : wpList Try.prog ops Q (o :: rest) a w := by
  obtain ⟨i0, hi, hz0, hz1, hz2⟩ := info_parts info5
  refine wpList_plain hgd fun K hK => ?_
  obtain ⟨b1, o1, hB, hc1⟩ := hf.2 hn
  obtain ⟨b2, o2, rfl, hc2⟩ := hr.2 hm
  obtain rfl : B = ⟨b1, o1, none⟩ := by simpa using hB
  have hrun := run_append_grow (P := Try.prog) w 22 o.type 5 i0 (.int .u8 0) Try.underlying22 hi hz0 ⟨b1, o1, none⟩ n n (u8s bs) (by rw [hz1, u8s_length, hf.len]; omega) (fun j u hu => by rw [Addr.add_lit']; exact hc1 j u hu)
    ⟨b2, o2, none⟩ m c (u8s news) (by rw [hz1, u8s_length, hr.len]; omega) (fun j u hu => by rw [Addr.add_lit']; exact hc2 j u hu) (by omega) (by omega) (growslice_fits (by omega) (by rw [hz2]; omega))
  unfold Oper.wp execOp
  simp only [ho, resolve, invoke, builtin, Sem.run_bind, Sem.run_pure, Result.andThen_ok, List.map_toArray, List.map_cons, List.map_nil, hs, hx, hrun]
  refine hK _ _ (h _ _ ?_ ((below_alloc w.drew _).mono hbase |> fun k => ⟨k.os, k.tape, k.output, k.size, k.block⟩))
  have hge := grownCap_ge w (n + m) n 5
  have hcm : grownCap w (n + m) n 5 ≤ maxLen := grownCap_le_maxLen w (n + m) n 5 (by unfold maxLen; omega)
  have hl1 := hf.len
  have hl2 := hr.len
  have hal := heap_alloc_new w.drew (.cells ((u8s bs).toArray ++ (u8s news).toArray ++ Builtin.zeroCells (Value.int .u8 0).cells (grownCap w (n + m) n 5 - (n + m))) 5)
  refine ⟨by simp [u8s_length], .inr ⟨w.heap.size, _, _, ?_, hbase, hal, ?_, hcm, ?_, ?_⟩⟩
  · rw [List.length_append, hl1, hl2]
  · rw [List.length_append, hl1, hl2]; exact hge
  · simp only [Array.size_append, List.size_toArray, size_zeroCells, u8s_length, hl1, hl2]
    simp [Value.cells]
    omega
  · simp only [Array.toList_append, List.append_assoc]
    rw [u8s_append, ← List.append_assoc, Nat.mul_one, show (bs ++ news).length = (u8s bs ++ u8s news).length by simp [u8s_length]]
    exact List.take_left

theorem leb_take (g : Nat) (hg : g < 4294967296) : ∀ j, j < 4 → (leb g).take (j + 1) = (leb g).take j ++ [UInt8.ofNat (g / 256 ^ j % 256)]
  | 0, _ => by simp [leb]
  | 1, _ => by simp [leb]
  | 2, _ => by simp [leb]
  | 3, _ => by simp [leb]; rw [Nat.mod_eq_of_lt (by omega)]
  | j + 4, h => absurd h (by omega)

def HeadState (wr : World) (base : Nat) (v : Value) (g j : Nat) : Prop :=
  (j = 0 ∧ ∃ B, v = .slice (some B) 4 4 ∧ Bytes wr (some B) 4 [71, 82, 68, 49]) ∨ (0 < j ∧ Own wr base v ([71, 82, 68, 49] ++ (leb g).take j))

theorem right_ok {l : List Cas} (h : rightC l = true) {j : Nat} {x : Cas} (hx : l[j]? = some x) : 1 ≤ x.kind ∧ x.kind ≤ 4 ∧ 0 ≤ x.note ∧ x.note < 2147483648 ∧ x.word.length ≤ 300 ∧ okL x.word = true := by
  unfold rightC at h
  simp only [Bool.and_eq_true] at h
  have := List.all_eq_true.1 h.2 x (List.mem_of_getElem? hx)
  simp only [okC, okK, okI, Bool.and_eq_true, decide_eq_true_eq] at this
  obtain ⟨⟨h1, h2⟩, ⟨h3, h4⟩, h5, h6⟩ := this
  exact ⟨h1, h2, h3, h4, h5, h6⟩

theorem okL_in64 {m : List Int} (h : okL m = true) : ∀ z ∈ m, -9223372036854775808 ≤ z ∧ z ≤ 9223372036854775807 := by
  intro z hz
  have := List.all_eq_true.1 h z hz
  simp only [okI, Bool.and_eq_true, decide_eq_true_eq] at this
  omega
theorem casB_take {l : List Cas} {j : Nat} {x : Cas} (hx : l[j]? = some x) : (l.take (j + 1)).flatMap casB = (l.take j).flatMap casB ++ casB x := by
  rw [List.take_add_one, hx, List.flatMap_append]
  simp
theorem casB_len (x : Cas) (h : x.word.length ≤ 300) : (casB x).length ≤ 1515 := by
  unfold casB
  have h1 := putN_len x.kind.toNat
  have h2 := putN_len x.note.toNat
  have h3 := listB_len x.word
  rw [List.length_append, List.length_append]
  omega
theorem casesB_len {l : List Cas} (h : ∀ x ∈ l, x.word.length ≤ 300) : (l.flatMap casB).length ≤ 1515 * l.length := by
  induction l with
  | nil => simp
  | cons x l ih =>
    have h1 := casB_len x (h x (by simp))
    have h2 := ih fun y hy => h y (by simp [hy])
    simp only [List.flatMap_cons, List.length_append, List.length_cons]
    omega
theorem headB_len (g : Nat) : (headB g).length = 8 := rfl

set_option maxHeartbeats 1000000 in
set_option maxRecDepth 100000 in
theorem enc_any (g : Nat) (A : Option Addr) (n c : Nat) (l : List Cas) (w : World) (hl : Cases w A n l) (hg : g < 4294967296) :
    Calls Try.prog 27 #[.agg #[.int .u32 (g : Int), .slice A n c]] w (EncPost w (encB g l)) := by
  have HL := hide (hl.below (below_alloc w (.cells #[.int .u32 (g : Int), .slice A n c] 37)))
  have hlen := hide hl.1
  clear hl
  have hrow : Row (w.alloc (.cells #[.int .u32 (g : Int), .slice A n c] 37)) w.heap.size 37 #[.int .u32 (g : Int), .slice A n c] := Row.new _ _ _
  have C1 := right_any g A n c l _ HL.out
  generalize hw1 : w.alloc (.cells #[.int .u32 (g : Int), .slice A n c] 37) = w1 at HL hrow C1
  have hb1 : Hid (Below w.heap.size w w1) := by rw [← hw1]; exact below_alloc _ _
  have c0 : w1.cell? ⟨w.heap.size, 0, none⟩ = some (.int .u32 (g : Int)) := (hrow.cell 0).trans rfl
  have c1 : w1.cell? ⟨w.heap.size, 1, none⟩ = some (.slice A n c) := (hrow.cell 1).trans rfl
  have hin : Hid (w.heap.size < w1.heap.size) := hrow.lt
  clear hrow
  have hc0 := hide c0
  have hc1 := hide c1
  cases hr : rightC l with
  | false =>
    have hres : Hid (encB g l = ([], 1)) := by show _ = _; unfold encB; rw [hr]; rfl
    rw [hr] at C1
    clear hr
    go_enter Try.func27, Try.ntmps27
    go_wp2_with fail
    refine C1.mono ?_
    rintro e w2 ⟨rfl, hbel⟩
    go_wp2_with fail
    go_ret2
    unfold EncPost
    rw [hres.out]
    exact ⟨.slice none 0 0, rfl, Own.nil_ _ _, below_both hb1.out hbel hb1.out.size⟩
  | true =>
    rw [hr] at C1
    have hn : n ≤ 2000 := by unfold rightC at hr; simp at hr; have := hlen.out; omega
    have hres := hide hr
    clear hr
    go_enter Try.func27, Try.ntmps27
    go_wp2_with fail
    refine C1.mono ?_
    rintro e w2 ⟨rfl, hbel⟩
    clear C1
    have c2 : w2.cell? ⟨w.heap.size, 0, none⟩ = some (.int .u32 (g : Int)) := (hbel.cell hin.out).trans hc0.out
    clear c0 c1
    have kc := fun (w : World) (C : Array Value) (n c : Nat) => Lib.run_convert_bytes_const (P := Try.prog) w 22 5 C n c Try.underlying22 Try.underlying5
    have hs1 := hb1.out.size
    have hb2 : Hid (Below w.heap.size w w2) := below_both hb1.out hbel hb1.out.size
    have hbel' := hide hbel
    have hs2 := hbel.size
    have hB2 : Hid (Bytes (w2.alloc (.cells #[.int .u8 71, .int .u8 82, .int .u8 68, .int .u8 49] 5 (4, 5))) (some ⟨w2.heap.size, 0, none⟩) 4 [71, 82, 68, 49]) := ⟨rfl, fun _ => ⟨_, _, rfl, fun j u hu => by
      have e : u8s [71, 82, 68, 49] = [.int .u8 71, .int .u8 82, .int .u8 68, .int .u8 49] := rfl
      rw [Nat.zero_add, cell_of_row _ w2.heap.size j _ 5 (4, 5) (heap_alloc_new w2 _)]
      rw [e] at hu
      simpa using hu⟩⟩
    have c0 : (w2.alloc (.cells #[.int .u8 71, .int .u8 82, .int .u8 68, .int .u8 49] 5 (4, 5))).cell? ⟨w.heap.size, 0, none⟩ = some (.int .u32 (g : Int)) := ((below_alloc w2 _).cell (cell_lt c2)).trans c2
    clear hbel c2
    go_wp2_with fail
    clear kc c0
    have hb3 : Hid (Below w.heap.size w (w2.alloc (.cells #[.int .u8 71, .int .u8 82, .int .u8 68, .int .u8 49] 5 (4, 5)))) := below_both hb2.out (below_alloc _ _) hb2.out.size
    have hb13 : Hid (Below w1.heap.size w1 (w2.alloc (.cells #[.int .u8 71, .int .u8 82, .int .u8 68, .int .u8 49] 5 (4, 5)))) := below_both hbel'.out (below_alloc _ _) hbel'.out.size
    generalize hw3 : w2.alloc (.cells #[.int .u8 71, .int .u8 82, .int .u8 68, .int .u8 49] 5 (4, 5)) = w3 at *
    go_loopw [4, 5, 6] (fun v d i wr => ∃ j : Nat, j ≤ 4 ∧ i = .int .i64 j ∧ d = .int .u32 ((g / 256 ^ j : Nat) : Int) ∧ Hid (HeadState wr w1.heap.size v g j) ∧ Hid (Below w1.heap.size w1 wr)) (fun _ _ i _ => 4 - (intOf i).toNat)
    case atStart => exact ⟨0, by omega, rfl, by simp, .inl ⟨rfl, _, rfl, hB2.out⟩, hb13.out⟩
    case round =>
      obtain ⟨j, hj, rfl, rfl, hst, hbr⟩ := hrel
      by_cases hj4 : j < 4
      · have hlt' : decide ((j : Int) < 4) = true := by simp; omega
        have htk := hide (leb_take g hg j hj4)
        have hnx : Hid (g / 256 ^ j / 256 = g / 256 ^ (j + 1)) := by show _ = _; rw [Nat.div_div_eq_div_mul, Nat.pow_succ]
        have hcur : g / 256 ^ j < 4294967296 := Nat.lt_of_le_of_lt (Nat.div_le_self _ _) hg
        generalize g / 256 ^ j = cur at *
        have hby : Hid (Bytes (wr.alloc (.cells #[.int .u8 ((cur : Int) % 256)] 5)) (some ⟨wr.heap.size, 0, none⟩) 1 [UInt8.ofNat (cur % 256)]) := bytes_one _ _ _ (by rw [UInt8.toNat_ofNat']; omega)
        have hsr := hbr.out.size
        rcases hst.out with ⟨rfl, B, rfl, hfull⟩ | ⟨hjp, hown⟩
        · have hF := hide (hfull.below (below_alloc wr (.cells #[.int .u8 ((cur : Int) % 256)] 5)))
          clear hfull
          go_wp2_with (at_builtin; refine appFull w1.heap.size hF.out hby.out (by omega) (by omega) (by omega) (by simp; omega) rfl _ _ rfl rfl _ rfl ?_)
          intro v4 w4 hown4 hbel4
          have hst2 : Hid (HeadState w4 w1.heap.size v4 g 1) := .inr ⟨by omega, by rw [htk.out]; simpa using hown4⟩
          have hbr2 : Hid (Below w1.heap.size w1 w4) := (hbr.out.trans ((below_alloc _ _).mono hsr)).trans hbel4
          clear hown4 hbel4
          go_wp2_with fail
          exact ⟨⟨1, by omega, by go_num, by rw [← hnx.out]; go_num, hst2, hbr2⟩, by simp [intOf]⟩
        · have ho8 := hide (hown.below (below_alloc wr (.cells #[.int .u8 ((cur : Int) % 256)] 5)))
          clear hown
          have hlt3 : ([71, 82, 68, 49] ++ (leb g).take j).length ≤ 8 := by simp [leb]; omega
          go_wp2_with (at_builtin; refine appB w1.heap.size ho8.out hby.out (by omega) (by simp; omega) rfl _ _ rfl rfl _ rfl ?_)
          intro v4 w4 hown4 hbel4
          have hst2 : Hid (HeadState w4 w1.heap.size v4 g (j + 1)) := .inr ⟨by omega, by rw [htk.out]; simpa using hown4⟩
          have hbr2 : Hid (Below w1.heap.size w1 w4) := (hbr.out.trans ((below_alloc _ _).mono hsr)).trans hbel4
          clear hown4 hbel4
          go_wp2_with fail
          exact ⟨⟨j + 1, by omega, by go_num, by rw [← hnx.out]; go_num, hst2, hbr2⟩, by simp [intOf]; omega⟩
      · obtain rfl : j = 4 := by omega
        have hlt' : decide ((4 : Int) < 4) = false := rfl
        have c1 : wr.cell? ⟨w.heap.size, 1, none⟩ = some (.slice A n c) := (hbr.out.cell hin.out).trans hc1.out
        have hown : Own wr w1.heap.size u4 (headB g) := by
          rcases hst.out with ⟨h, _⟩ | ⟨_, h⟩
          · cases h
          · exact h
        obtain ⟨A4, L4, c4, hv4, hL4, hB4, _⟩ := hown.form2
        subst hv4
        have hL48 : L4 ≤ 8 := by rw [hL4.out]; exact Nat.le_refl 8
        have HB4 := hide hB4
        clear hB4 hown
        generalize hgq : g / 256 ^ 4 = gq at *
        clear hgq hst
        go_wp2_with fail
        refine (put_any A4 L4 c4 (headB g) n _ HB4.out (by omega) (by omega)).mono ?_
        rintro e w5 ⟨v5, rfl, hown5, hbel5⟩
        have hb5 : Hid (Below w1.heap.size w1 w5) := below_both hbr.out hbel5 hbr.out.size
        have ho5 := hide (own_mono hown5 hbr.out.size)
        have c5 : w5.cell? ⟨w.heap.size, 1, none⟩ = some (.slice A n c) := (hb5.out.cell hin.out).trans hc1.out
        clear c1 hown5 hbel5
        go_wp2_with fail
        clear c5
        go_loopw [4, 8, 9, 10, 38] (fun v _ _ _ i wr => ∃ j : Nat, j ≤ n ∧ i = .int .i64 j ∧ Hid (Own wr w1.heap.size v (headB g ++ (Code.putN n ++ (l.take j).flatMap casB))) ∧ Hid (Below w1.heap.size w1 wr)) (fun _ _ _ _ i _ => n - (intOf i).toNat)
        case atStart => exact ⟨0, by omega, rfl, by have := ho5.out; rw [List.take_zero, List.flatMap_nil, List.append_nil]; exact this, hb5.out⟩
        case round =>
          obtain ⟨j, hj, rfl, hst, hbr⟩ := hrel
          by_cases hlt : j < n
          · have hlt' : decide ((j : Int) < (n : Int)) = true := by simp; omega
            obtain ⟨b, o, x, hA, hx, hc⟩ := (HL.out.below hbr.out).at_ hlt
            subst hA
            obtain ⟨A', c', k1, k2, k3, k4⟩ := hc
            obtain ⟨q1, q2, q3, q4, q5, q6⟩ := right_ok hres.out hx
            obtain ⟨xk, xn, xw⟩ := x
            dsimp only at k1 k2 k3 k4 q1 q2 q3 q4 q5 q6
            obtain ⟨kk, rfl⟩ := Int.eq_ofNat_of_zero_le (show 0 ≤ xk by omega)
            obtain ⟨nn, rfl⟩ := Int.eq_ofNat_of_zero_le q3
            have hkk : kk < 4294967296 := by omega
            have hnn : nn < 4294967296 := by omega
            have hx' := hide hx
            have hq6 := hide q6
            clear q1 q2 q3 q4 q6 hx
            have hr6 : Row (wr.alloc (.cells #[.int .i64 (kk : Int), .int .i64 (nn : Int), .slice A' xw.length c'] 66)) wr.heap.size 66 #[.int .i64 (kk : Int), .int .i64 (nn : Int), .slice A' xw.length c'] := Row.new _ _ _
            have hbr6 : Hid (Below w1.heap.size w1 (wr.alloc (.cells #[.int .i64 (kk : Int), .int .i64 (nn : Int), .slice A' xw.length c'] 66))) := below_both hbr.out (below_alloc _ _) hbr.out.size
            have hst6 := hide (hst.out.below (below_alloc wr (.cells #[.int .i64 (kk : Int), .int .i64 (nn : Int), .slice A' xw.length c'] 66)))
            have hw6 := hide (Elems.below k4.1 (below_alloc wr (.cells #[.int .i64 (kk : Int), .int .i64 (nn : Int), .slice A' xw.length c'] 66)))
            have E0 : ∀ W, Ext (wr.alloc (.cells #[.int .i64 (kk : Int), .int .i64 (nn : Int), .slice A' xw.length c'] 66)) W → W.cell? ⟨wr.heap.size, 0, none⟩ = some (.int .i64 (kk : Int)) := fun W hW => (hW.cell hr6.lt).trans ((hr6.cell 0).trans rfl)
            have E1 : ∀ W, Ext (wr.alloc (.cells #[.int .i64 (kk : Int), .int .i64 (nn : Int), .slice A' xw.length c'] 66)) W → W.cell? ⟨wr.heap.size, 1, none⟩ = some (.int .i64 (nn : Int)) := fun W hW => (hW.cell hr6.lt).trans ((hr6.cell 1).trans rfl)
            have E2 : ∀ W, Ext (wr.alloc (.cells #[.int .i64 (kk : Int), .int .i64 (nn : Int), .slice A' xw.length c'] 66)) W → W.cell? ⟨wr.heap.size, 2, none⟩ = some (.slice A' xw.length c') := fun W hW => (hW.cell hr6.lt).trans ((hr6.cell 2).trans rfl)
            have hsz6 := hr6.lt
            go_wp2_with fail
            clear k1 k2 k3 k4 hr6
            generalize hgp : wr.heap.size = p8 at *
            generalize wr.alloc (.cells #[.int .i64 (kk : Int), .int .i64 (nn : Int), .slice A' xw.length c'] 66) = w6 at *
            refine wp_region_seq [(0, false), (1, false), (2, false), (4, false), (5, false), (6, false), (3, true), (7, true), (8, false)]
              (by kernel_rfl) (by kernel_rfl) (by kernel_rfl) rfl (by kernel_rfl) (fun _ _ d _ _ h => by cases d <;> exact h) ?_
            simp only [List.map_cons, List.map_nil, List.getElem?_cons_succ, List.getElem?_cons_zero, Option.getD_some]
            iterate 6 (refine wpSeq_take rfl rfl (fun W hW => (by have e0 := E0 W hW; have e1 := E1 W hW; go_simp; with_reducible rfl)) ?_; simp only [List.setIfInBounds_toArray, List.set_cons_zero, List.set_cons_succ])
            refine wpSeq_alone rfl (fun K hK => ?_)
            go_wp2_with fail
            refine (put_any none 0 0 [] kk _ (Elems.nil _ _) (by omega) hkk).mono ?_
            rintro e w7 ⟨v7, rfl, hown7, hbel7⟩
            obtain ⟨A7, L7, c7, hv7, hL7, hB7, hcc7⟩ := hown7.form2
            subst hv7
            have hx7 : Ext w6 w7 := below_both (Ext.drew w6) hbel7 (Nat.le_refl _)
            have hL75 : L7 ≤ 5 := by have h1 := hL7.out; have h2 := putN_len kk; rw [List.nil_append] at h1; omega
            have HB7 := hide hB7
            refine hK _ _ w7 hx7 (Ext.refl w7) ?_
            clear hK K hcc7 hB7 hown7 hbel7
            refine wpSeq_alone rfl (fun K hK => ?_)
            go_wp2_with fail
            refine (put_any A7 L7 c7 ([] ++ Code.putN kk) nn _ HB7.out (by omega) hnn).mono ?_
            rintro e w8 ⟨v8, rfl, hown8, hbel8⟩
            obtain ⟨A8, L8, c8, hv8, hL8, hB8, hcc8⟩ := hown8.form2
            subst hv8
            have hx8 : Ext w6 w8 := hx7.trans hbel8
            have hL810 : L8 ≤ 10 := by have h1 := hL8.out; have h2 := putN_len kk; have h3 := putN_len nn; rw [List.nil_append, List.length_append] at h1; omega
            have HB8 := hide hB8
            refine hK _ _ w8 hbel8 (Ext.refl w8) ?_
            clear hK K hcc8 hB8 hown8 hbel8
            iterate 1 (refine wpSeq_take rfl rfl (fun W hW => (by go_simp; with_reducible rfl)) ?_; simp only [List.setIfInBounds_toArray, List.set_cons_zero, List.set_cons_succ])
            refine wpSeq_nil ?_
            have e2 := E2 w8 hx8
            go_wp2_with fail
            have C35 := putl_any A8 A' L8 c8 xw.length c' _ xw w8 HB8.out (Elems.below hw6.out hx8) (by omega) (by omega) (okL_in64 hq6.out)
            unfold PutPost at C35
            rw [hq6.out] at C35
            simp only [if_true] at C35
            refine C35.mono ?_
            clear C35
            rintro e w9 ⟨v9, rfl, hown9, hbel9⟩
            have hx9 : Ext w6 w9 := below_both hx8 hbel9 hx8.size
            obtain ⟨A9, L9, c9, hv9, hL9, hB9, hcc9⟩ := hown9.form2
            subst hv9
            have hL92 : L9 ≤ 2000 := by have h1 := hL9.out; have h2 := listB_len xw; have h3 := hL8.out; rw [List.length_append] at h1; omega
            have HB9 := hide hB9
            have hst9 := hide (hst6.out.below hx9)
            have hbase9 : w1.heap.size ≤ w9.heap.size := Nat.le_trans hbr6.out.size hx9.size
            have hpre : (headB g ++ (Code.putN n ++ (l.take j).flatMap casB)).length ≤ 10000000 := by
              have h1 := casesB_len (l := l.take j) fun y hy => by
                obtain ⟨i, hi⟩ := List.getElem?_of_mem (List.mem_of_mem_take hy)
                exact (right_ok hres.out hi).2.2.2.2.1
              have h2 := putN_len n
              rw [List.length_append, List.length_append, headB_len]
              rw [List.length_take] at h1
              omega
            clear hcc9 hB9 hown9 e2
            go_wp2_with (at_builtin; refine appB w1.heap.size hst9.out HB9.out (by omega) hbase9 rfl _ _ rfl rfl _ rfl ?_)
            intro v10 w10 hown10 hbel10
            have hbr10 : Hid (Below w1.heap.size w1 w10) := (hbr6.out.trans (hx9.mono hbr6.out.size)).trans hbel10
            have hst10 : Hid (Own w10 w1.heap.size v10 (headB g ++ (Code.putN n ++ (l.take (j + 1)).flatMap casB))) := by
              show Own _ _ _ _
              rw [casB_take hx'.out]
              simpa [casB] using hown10
            clear hown10 hbel10
            go_wp2_with fail
            exact ⟨⟨j + 1, by omega, by go_num, hst10, hbr10⟩, by simp [intOf]; omega⟩
          · have hlt' : decide ((j : Int) < (n : Int)) = false := by simp; omega
            have hst2 : Hid (Own wr w1.heap.size u4 (corB g l)) := by
              show Own _ _ _ _
              have := hst.out
              rw [List.take_of_length_le (by rw [hlen.out]; omega)] at this
              unfold corB
              rw [hlen.out]
              exact this
            have hcl : (corB g l).length ≤ 10000000 := by
              have h1 := casesB_len (l := l) fun y hy => by
                obtain ⟨i, hi⟩ := List.getElem?_of_mem hy
                exact (right_ok hres.out hi).2.2.2.2.1
              have h2 := putN_len l.length
              have h3 := hlen.out
              unfold corB
              rw [List.length_append, List.length_append, headB_len]
              omega
            obtain ⟨A6, L6, c6, hv6, hL6, hB6, hcc6⟩ := hst2.out.form2
            subst hv6
            have HB6 := hide hB6
            have hL6' : L6 ≤ 10000000 := by rw [hL6.out]; exact hcl
            clear hst hcc6 hB6
            go_wp2_with fail
            refine (frame_any A6 L6 c6 (corB g l) _ HB6.out (by omega)).mono ?_
            rintro e w7 ⟨v7, rfl, hown7, hbel7⟩
            obtain ⟨A7, L7, c7, hv7, hL7, hB7, hcc7⟩ := hown7.form2
            subst hv7
            have hb7 : Hid (Below w.heap.size w w7) := below_both hb1.out (below_both hbr.out hbel7 hbr.out.size) hb1.out.size
            have ho7 := hide (own_mono hown7 (Nat.le_trans hb1.out.size hbr.out.size))
            clear hcc7 hB7 hown7 hbel7
            by_cases hbig : 60000 < L7
            · have hbig' : decide (60000 < (L7 : Int)) = true := by simp; omega
              have henc : Hid (encB g l = ([], 5)) := by show _ = _; unfold encB; rw [hres.out, ← hL7.out, if_pos rfl, if_pos hbig]
              go_wp2_with fail
              go_ret2
              unfold EncPost
              rw [henc.out]
              exact ⟨.slice none 0 0, rfl, Own.nil_ _ _, hb7.out⟩
            · have hbig' : decide (60000 < (L7 : Int)) = false := by simp; omega
              have henc : Hid (encB g l = (frameB (corB g l), 0)) := by show _ = _; unfold encB; rw [hres.out, ← hL7.out, if_pos rfl, if_neg hbig]
              go_wp2_with fail
              go_ret2
              unfold EncPost
              rw [henc.out]
              exact ⟨_, rfl, ho7.out, hb7.out⟩
end Go.Proofs.Ytbfefjlilmoigaa
