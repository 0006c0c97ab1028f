/- Walks over code: numbers put. -/
import Derived.Test.YtbfefjlilmoigaaT8
import Derived.Test.YtbfefjlilmoigaaCode
namespace Go.Proofs.Ytbfefjlilmoigaa
open Go.RowKit
set_option linter.unusedVariables false

theorem bytes_one (w : World) (z : Int) (y : UInt8) (hz : (y.toNat : Int) = z) : Bytes (w.alloc (.cells #[.int .u8 z] 5)) (some ⟨w.heap.size, 0, none⟩) 1 [y] := by
  subst hz
  exact Elems.new w [.int .u8 (y.toNat : Int)] 5 1 rfl

theorem byte_more (x : Nat) (h : x < 4294967296) : bits .or .u8 ((x : Int) % 256) 128 = (((UInt8.ofNat (x % 128 + 128)).toNat : Nat) : Int) := by
  have h1 : ∀ z, z < 256 → z ||| 128 = z % 128 + 128 := by decide +kernel
  have h2 := u8_or_nat (x % 256) 128 (by omega) (by omega)
  rw [h1 _ (by omega)] at h2
  rw [UInt8.toNat_ofNat', show (x % 128 + 128) % 2 ^ 8 = x % 256 % 128 + 128 by omega]
  rw [← h2]
  simp

theorem byte_last (x : Nat) (h : x < 128) : (((UInt8.ofNat x).toNat : Nat) : Int) = (x : Int) := by
  rw [UInt8.toNat_ofNat']
  omega

def PutState (wr : World) (base : Nat) (v : Value) (bs : List UInt8) (m cur : Nat) : Prop :=
  ∃ f pre, cur < 128 ^ (f + 1) ∧ pre.length + f = 4 ∧ pre ++ Code.putF f cur = Code.putN m ∧ Own wr base v (bs ++ pre)

theorem PutState.more {wr : World} {base : Nat} {v : Value} {bs : List UInt8} {m cur : Nat} (h : PutState wr base v bs m cur) (hge : 128 ≤ cur) :
    ∃ pre : List UInt8, pre.length ≤ 4 ∧ Own wr base v (bs ++ pre) ∧ ∀ v' w', Own w' base v' (bs ++ (pre ++ [UInt8.ofNat (cur % 128 + 128)])) → PutState w' base v' bs m (cur / 128) := by
  obtain ⟨f, pre, h1, h2, h3, h4⟩ := h
  cases f with
  | zero => simp at h1; omega
  | succ f =>
    refine ⟨pre, by omega, h4, fun v' w' hown => ⟨f, pre ++ [UInt8.ofNat (cur % 128 + 128)], ?_, by simp; omega, ?_, by simpa using hown⟩⟩
    · rw [Nat.pow_succ] at h1
      exact Nat.div_lt_of_lt_mul (by rw [Nat.mul_comm]; exact h1)
    · rw [← h3, Code.putF_more _ _ (by omega)]
      simp

theorem PutState.last {wr : World} {base : Nat} {v : Value} {bs : List UInt8} {m cur : Nat} (h : PutState wr base v bs m cur) (hlt : cur < 128) :
    ∃ pre : List UInt8, pre.length ≤ 4 ∧ Own wr base v (bs ++ pre) ∧ ∀ v' w', Own w' base v' (bs ++ (pre ++ [UInt8.ofNat cur])) → Own w' base v' (bs ++ Code.putN m) := by
  obtain ⟨f, pre, h1, h2, h3, h4⟩ := h
  refine ⟨pre, by omega, h4, fun v' w' hown => ?_⟩
  rw [← h3, Code.putF_small _ _ hlt]
  simpa using hown

set_option maxRecDepth 100000 in
theorem put_any (A : Option Addr) (n c : Nat) (bs : List UInt8) (m : Nat) (w : World) (hb : Bytes w A n bs) (hn : n ≤ 100000000) (hm : m < 4294967296) :
    Calls Try.prog 32 #[.slice A n c, .int .u32 m] w fun e w' => ∃ v, e = .returned v ∧ Own w' w.heap.size v (bs ++ Code.putN m) ∧ Below w.heap.size w w' := by
  have H := hide hb
  have hl := hide hb.len
  clear hb
  go_enter Try.func32, Try.ntmps32
  go_wp2_with fail
  refine (clone_any A n c bs _ H.out (by omega)).mono ?_
  rintro e w1 ⟨v1, rfl, hown1, hbel1⟩
  go_wp2_with fail
  go_loopw [1, 5] (fun x v wr => ∃ cur : Nat, cur < 4294967296 ∧ x = .int .u32 cur ∧ Hid (PutState wr w.heap.size v bs m cur) ∧ Hid (Below w.heap.size w wr)) (fun x _ _ => (intOf x).toNat)
  case atStart => exact ⟨m, hm, rfl, ⟨4, [], by omega, rfl, rfl, by simpa using hown1⟩, hbel1⟩
  case round =>
    obtain ⟨cur, hcur, rfl, hrow, hbel⟩ := hrel
    by_cases hge : 128 ≤ cur
    · obtain ⟨pre, hpl, hown, hnext⟩ := hrow.out.more hge
      have hnext' := hide hnext
      have bm := byte_more cur hcur
      have hc2 : cur / 128 < 4294967296 := by omega
      clear hnext
      obtain ⟨y, hy⟩ : ∃ y, y = UInt8.ofNat (cur % 128 + 128) := ⟨_, rfl⟩
      rw [← hy] at bm hnext'
      clear hy
      go_wp2_with (at_builtin; refine appB w.heap.size (hown.below (below_alloc _ _)) (bytes_one wr _ y rfl) (by have := hl.out; simp; omega) (by have := hbel.out.size; simp; omega) rfl _ _ rfl rfl _ rfl ?_)
      intro v2 w2 hown2 hbel2
      have hbb : Hid (Below w.heap.size w w2) := (hbel.out.trans ((below_alloc _ _).mono hbel.out.size)).trans hbel2
      have hst : Hid (PutState w2 w.heap.size v2 bs m (cur / 128)) := hnext'.out v2 w2 hown2
      clear hown hown2 hbel2 bm
      go_wp2
      go_roundw
      case rel => exact ⟨cur / 128, hc2, by go_num, hst, hbb⟩
      case measure => simp [intOf]; omega
    · obtain ⟨pre, hpl, hown, hnext⟩ := hrow.out.last (by omega)
      have hnext' := hide hnext
      have bm := hide (byte_last cur (by omega))
      clear hnext
      go_wp2_with (at_builtin; refine appB w.heap.size (hown.below (below_alloc _ _)) (bytes_one wr _ _ bm.out) (by have := hl.out; simp; omega) (by have := hbel.out.size; simp; omega) rfl _ _ rfl rfl _ rfl ?_)
      intro v2 w2 hown2 hbel2
      have hbb : Hid (Below w.heap.size w w2) := (hbel.out.trans ((below_alloc _ _).mono hbel.out.size)).trans hbel2
      have hst := hide (hnext'.out v2 w2 hown2)
      clear hown hown2 hbel2 bm
      go_wp2
      go_ret
      exact ⟨_, rfl, hst.out, hbb.out⟩

set_option maxRecDepth 100000 in
theorem rput_any (A : Option Addr) (n c : Nat) (bs : List UInt8) (m : Nat) (w : World) (hb : Bytes w A n bs) (hn : n ≤ 100000000) (hm : m < 4294967296) :
    Calls Try.prog 33 #[.slice A n c, .int .u32 m] w fun e w' => ∃ v, e = .returned v ∧ Own w' w.heap.size v (bs ++ Code.putN m) ∧ Below w.heap.size w w' := by
  have H := hide hb
  have hl := hide hb.len
  clear hb
  go_enter Try.func33, Try.ntmps33
  go_wp2_with (at_builtin; refine appB w.heap.size (Own.empty w) (H.out.below (below_alloc _ _)) (by have := hl.out; first | omega | (simp; omega)) (by simp) rfl _ _ rfl rfl _ rfl ?_)
  intro v1 w1 hown1 hbel1
  have hbel1' : Below w.heap.size w w1 := (below_alloc _ _).trans hbel1
  clear hbel1
  go_wp2_with fail
  go_loopw [1, 5] (fun x v wr => ∃ cur : Nat, cur < 4294967296 ∧ x = .int .u32 cur ∧ Hid (PutState wr w.heap.size v bs m cur) ∧ Hid (Below w.heap.size w wr)) (fun x _ _ => (intOf x).toNat)
  case atStart => exact ⟨m, hm, rfl, ⟨4, [], by omega, rfl, rfl, by simpa using hown1⟩, hbel1'⟩
  case round =>
    obtain ⟨cur, hcur, rfl, hrow, hbel⟩ := hrel
    by_cases hge : 128 ≤ cur
    · obtain ⟨pre, hpl, hown, hnext⟩ := hrow.out.more hge
      have hnext' := hide hnext
      have bm : (((UInt8.ofNat (cur % 128 + 128)).toNat : Nat) : Int) = (cur : Int) % 128 + 128 := by rw [UInt8.toNat_ofNat']; omega
      have hc2 : cur / 128 < 4294967296 := by omega
      clear hnext
      obtain ⟨y, hy⟩ : ∃ y, y = UInt8.ofNat (cur % 128 + 128) := ⟨_, rfl⟩
      rw [← hy] at bm hnext'
      clear hy
      have Bm := hide bm
      clear bm
      go_wp2_with (at_builtin; refine appB w.heap.size (hown.below (below_alloc _ _)) (bytes_one wr _ y Bm.out) (by have := hl.out; simp; omega) (by have := hbel.out.size; simp; omega) rfl _ _ rfl rfl _ rfl ?_)
      intro v2 w2 hown2 hbel2
      have hbb : Hid (Below w.heap.size w w2) := (hbel.out.trans ((below_alloc _ _).mono hbel.out.size)).trans hbel2
      have hst : Hid (PutState w2 w.heap.size v2 bs m (cur / 128)) := hnext'.out v2 w2 hown2
      clear hown hown2 hbel2
      go_wp2
      go_roundw
      case rel => exact ⟨cur / 128, hc2, by go_num, hst, hbb⟩
      case measure => simp [intOf]; omega
    · obtain ⟨pre, hpl, hown, hnext⟩ := hrow.out.last (by omega)
      have hnext' := hide hnext
      have bm := hide (byte_last cur (by omega))
      clear hnext
      go_wp2_with (at_builtin; refine appB w.heap.size (hown.below (below_alloc _ _)) (bytes_one wr _ _ bm.out) (by have := hl.out; simp; omega) (by have := hbel.out.size; simp; omega) rfl _ _ rfl rfl _ rfl ?_)
      intro v2 w2 hown2 hbel2
      have hbb : Hid (Below w.heap.size w w2) := (hbel.out.trans ((below_alloc _ _).mono hbel.out.size)).trans hbel2
      have hst := hide (hnext'.out v2 w2 hown2)
      clear hown hown2 hbel2 bm
      go_wp2
      go_ret
      exact ⟨_, rfl, hst.out, hbb.out⟩
end Go.Proofs.Ytbfefjlilmoigaa
