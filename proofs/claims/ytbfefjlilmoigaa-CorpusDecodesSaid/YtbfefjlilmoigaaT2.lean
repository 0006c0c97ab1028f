/- Walks over crc. -/
import Derived.Test.YtbfefjlilmoigaaT1
namespace Go.Proofs.Ytbfefjlilmoigaa
open Go.RowKit
set_option linter.unusedVariables false

def Table (w : World) (g k : Nat) : Prop := ∃ cs, Row w g 61 cs ∧ cs.size = 16 ∧ ∀ j, j < k → cs[j]? = some (.int .u32 (Crc.halfs 4 j))

theorem Table.put {w : World} {g k : Nat} (h : Table w g k) (hk : k < 16) : Table (w.setCell ⟨g, k, none⟩ (.int .u32 (Crc.halfs 4 k))) g (k + 1) := by
  obtain ⟨cs, hr, hs, hj⟩ := h
  refine ⟨_, hr.put k _, by simpa using hs, fun j hjk => ?_⟩
  rw [Array.getElem?_setIfInBounds]
  by_cases e : k = j
  · subst e; simp [hs, hk]
  · rw [if_neg e]; exact hj j (by omega)

theorem more_any (s : Nat) (A : Option Addr) (n c : Nat) (bs : List UInt8) (w : World) (hs : s < 4294967296) (hb : Bytes w A n bs) (hn : n ≤ 9223372036854775807) :
    Calls Try.prog 19 #[.int .u32 s, .slice A n c] w fun e w' => e = .returned (.int .u32 (Crc.more s (nums bs))) ∧ Below w.heap.size w w' := by
  go_enter Try.func19, Try.ntmps19
  go_wp2
  go_loopw [10] (fun i wr => ∃ k : Nat, k ≤ 16 ∧ i = .int .i64 k ∧ Table wr w.heap.size k ∧ Below w.heap.size w wr) (fun i _ => 16 - (intOf i).toNat)
  case atStart => exact ⟨0, by omega, rfl, ⟨_, Row.new _ _ _, rfl, fun j hj => by omega⟩, (Below.refl _ _).alloc (Nat.le_refl _) _⟩
  case round =>
    obtain ⟨k, hk, rfl, ht, hbel⟩ := hrel
    by_cases hlt : k < 16
    · have hc : ∃ v, wr.cell? ⟨w.heap.size, k, none⟩ = some v := by
        obtain ⟨cs, hr, hsz, _⟩ := ht
        exact ⟨_, (hr.cell k).trans (Array.getElem?_eq_getElem (by omega))⟩
      obtain ⟨v, hc⟩ := hc
      have hf : wr.frozen? ⟨w.heap.size, k, none⟩ = false := by obtain ⟨cs, hr, _⟩ := ht; exact hr.frozen k
      have ht' := hide (ht.put hlt)
      have hb' := hide (hbel.setCell (p := ⟨w.heap.size, k, none⟩) (Nat.le_refl _) (.int .u32 (Crc.halfs 4 k)))
      clear ht hbel
      go_wp2_with (go_at_call 46; refine (half_any k _ (by omega)).mono ?_; rintro e w' ⟨rfl, rfl⟩)
      go_roundw
      case rel => exact ⟨k + 1, by omega, by go_num, ht'.out, hb'.out⟩
      case measure => simp [intOf]; omega
    · have : k = 16 := by omega
      subst this
      have hw : Bytes wr A n bs := hb.below hbel
      have hbel' := hide hbel
      have hcell : ∀ m : Nat, wr.cell? ⟨w.heap.size, m % 16, none⟩ = some (.int .u32 (Crc.halfs 4 (m % 16))) := by
        obtain ⟨cs, hr, _, hj⟩ := ht
        exact fun m => (hr.cell _).trans (hj _ (by omega))
      have hb' := hide hb
      have hcell' := hide hcell
      have hw' := hide hw
      clear hbel hb hcell hw
      obtain ⟨t, et⟩ : ∃ t, t = 4294967295 - s := ⟨_, rfl⟩
      have ht32 : t < 4294967296 := by omega
      have es : bits .xor .u32 IntKind.u32.max (s : Int) = (t : Int) := by rw [et]; exact not_u32 s hs
      have Et := hide et; clear et ht
      go_wp2
      clear es
      go_loop [7, 23] (fun c i => ∃ k m : Nat, k ≤ n ∧ m < 4294967296 ∧ Hid (Crc.fold ((nums bs).take k) t = m) ∧ c = .int .u32 m ∧ i = .int .i64 k) (fun _ i => n - (intOf i).toNat)
      case atStart => exact ⟨0, t, by omega, ht32, rfl, rfl, rfl⟩
      case round =>
        obtain ⟨k, m, hk, hm, hx', rfl, rfl⟩ := hrel
        by_cases hlt : k < n
        · obtain ⟨b, o, x, rfl, hx, hc⟩ := hw'.out.at_ hlt
          have hx256 := x.toNat_lt
          have e1 := u32_xor_nat m x.toNat hm (by omega)
          have l1 := Crc.xor_lt m x.toNat hm x.toNat_lt
          obtain ⟨m1, q1⟩ : ∃ m1, m1 = m ^^^ x.toNat := ⟨_, rfl⟩
          rw [← q1] at e1 l1
          have a1 := and_15 m1 l1
          have c1 := hcell'.out m1
          have l2 := Crc.halfs_lt 4 m1 l1
          have l2' := Crc.halfs_lt 4 (m1 % 16) (by omega)
          have r2 := Crc.halfs_low 4 m1
          obtain ⟨m2, q2⟩ : ∃ m2, m2 = Crc.halfs 4 m1 := ⟨_, rfl⟩
          obtain ⟨t2, p2⟩ : ∃ t2, t2 = Crc.halfs 4 (m1 % 16) := ⟨_, rfl⟩
          rw [← q2] at l2
          rw [show (2 : Nat) ^ 4 = 16 from rfl, ← q2, ← p2] at r2
          rw [← p2] at c1 l2'
          have e2 : bits .xor .u32 ((m1 : Int) / 16) (t2 : Int) = (m2 : Int) := by
            have := u32_xor_nat (m1 / 16) t2 (by omega) l2'
            rw [← r2] at this
            exact this
          have a2 := and_15 m2 l2
          have c2 := hcell'.out m2
          have l3 := Crc.halfs_lt 4 m2 l2
          have l3' := Crc.halfs_lt 4 (m2 % 16) (by omega)
          have r3 := Crc.halfs_low 4 m2
          obtain ⟨m3, q3⟩ : ∃ m3, m3 = Crc.halfs 4 m2 := ⟨_, rfl⟩
          obtain ⟨t3, p3⟩ : ∃ t3, t3 = Crc.halfs 4 (m2 % 16) := ⟨_, rfl⟩
          rw [← q3] at l3
          rw [show (2 : Nat) ^ 4 = 16 from rfl, ← q3, ← p3] at r3
          rw [← p3] at c2 l3'
          have e3 : bits .xor .u32 ((m2 : Int) / 16) (t3 : Int) = (m3 : Int) := by
            have := u32_xor_nat (m2 / 16) t3 (by omega) l3'
            rw [← r3] at this
            exact this
          have hfin : Hid (Crc.fold ((nums bs).take (k + 1)) t = m3) := by
            have hx2 : (nums bs)[k]? = some x.toNat := by simp [nums, hx]
            show Crc.fold ((nums bs).take (k + 1)) t = m3
            rw [List.take_add_one, hx2, Crc.fold_append, hx'.out]
            show Crc.byte m x.toNat = m3
            rw [q3, q2, q1, Crc.byte, show (8 : Nat) = 4 + 4 from rfl, Crc.halfs_add]
          clear q1 q2 q3 p2 p3 r2 r3 hx
          go_wp2
          go_round
          case rel => exact ⟨k + 1, m3, by omega, l3, hfin, rfl, by go_num⟩
          case measure => simp [intOf]; omega
        · have : k = n := by omega
          subst this
          have e9 := not_u32 m hm
          go_wp2
          go_ret
          refine ⟨ret_int ?_, hbel'.out⟩
          have := hx'.out
          rw [List.take_of_length_le (by rw [nums_length, hb'.out.len]; exact Nat.le_refl _)] at this
          rw [← this, Et.out]
          rfl
end Go.Proofs.Ytbfefjlilmoigaa
