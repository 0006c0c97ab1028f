/- Walks over crc's reference. -/
import Derived.Test.YtbfefjlilmoigaaT2
namespace Go.Proofs.Ytbfefjlilmoigaa
open Go.RowKit
set_option linter.unusedVariables false

theorem half_unlike (m x : Nat) (h : m % 2 ≠ x % 2) : (m / 2 ^^^ 3988292384) ^^^ (x / 2) = Crc.half (m ^^^ x) := by
  unfold Crc.half
  rw [Crc.xor_mod2, if_pos (by omega), Crc.xor_div2, Nat.xor_assoc, Nat.xor_assoc, Nat.xor_comm 3988292384]
theorem half_like (m x : Nat) (h : m % 2 = x % 2) : (m / 2) ^^^ (x / 2) = Crc.half (m ^^^ x) := by
  unfold Crc.half
  rw [Crc.xor_mod2, if_neg (by omega), Crc.xor_div2]

theorem rmore_any (s : Nat) (A : Option Addr) (n c : Nat) (bs : List UInt8) (w : World) (hs : s < 4294967296) (hb : Bytes w A n bs) (hn : n ≤ 9223372036854775807) :
    Calls Try.prog 20 #[.int .u32 s, .slice A n c] w fun e w' => e = .returned (.int .u32 (Crc.more s (nums bs))) ∧ w = w' := by
  have hb' := hide hb; clear hb
  obtain ⟨t, et⟩ : ∃ t, t = 4294967295 - s := ⟨_, rfl⟩
  have ht32 : t < 4294967296 := by omega
  have es : 4294967295 - (s : Int) = (t : Int) := by omega
  have Et := hide et; clear et
  go_enter Try.func20, Try.ntmps20
  go_wp2
  clear es
  go_loop [5, 6] (fun c i => ∃ k m : Nat, k ≤ n ∧ m < 4294967296 ∧ Hid (Crc.fold ((nums bs).take k) t = m) ∧ c = .int .u32 m ∧ i = .int .i64 k) (fun _ i => n - (intOf i).toNat)
  case atStart => exact ⟨0, t, by omega, ht32, rfl, rfl, rfl⟩
  case round =>
    obtain ⟨k, m, hk, hm, hx', rfl, rfl⟩ := hrel
    by_cases hlt : k < n
    · obtain ⟨b, o, x, rfl, hx, hc⟩ := hb'.out.at_ hlt
      have hx256 := x.toNat_lt
      have hx2 := hide hx; clear hx
      go_wp2
      go_loop [5, 7, 8] (fun c y i => ∃ j m' y' : Nat, j ≤ 8 ∧ m' < 4294967296 ∧ y' < 256 ∧ Hid (y' < 2 ^ (8 - j) ∧ m' ^^^ y' = Crc.halfs j (m ^^^ x.toNat)) ∧ c = .int .u32 m' ∧ y = .int .u8 y' ∧ i = .int .i64 j) (fun _ _ i => 8 - (intOf i).toNat)
      case atStart => exact ⟨0, m, x.toNat, by omega, hm, hx256, ⟨by simpa using hx256, rfl⟩, rfl, rfl, rfl⟩
      case round =>
        obtain ⟨j, m', y', hj, hm', hy', hq, rfl, rfl, rfl⟩ := hrel
        by_cases hlt2 : j < 8
        · have hy2 : Hid (y' / 2 < 2 ^ (8 - (j + 1))) := by
            have h1 := hq.out.1
            rw [show 8 - j = (8 - (j + 1)) + 1 by omega, Nat.pow_succ] at h1
            show _ < _
            omega
          by_cases hp : m' % 2 = y' % 2
          · have t1 : ((m' : Int) % 2 != (y' : Int) % 2) = false := by simp; omega
            have h3 := hide (half_like m' y' hp)
            clear hp
            go_wp2
            go_round
            case rel => exact ⟨j + 1, m' / 2, y' / 2, by omega, by omega, by omega, ⟨hy2.out, by rw [h3.out, halfs_succ, hq.out.2]⟩, by go_num, by go_num, by go_num⟩
            case measure => simp [intOf]; omega
          · have t1 : ((m' : Int) % 2 != (y' : Int) % 2) = true := by simp; omega
            have h3 := hide (half_unlike m' y' hp)
            have e2 := xor_poly (m' / 2) (by omega)
            have h4 : m' / 2 ^^^ 3988292384 < 4294967296 := Nat.xor_lt_two_pow (n := 32) (by omega) (by omega)
            clear hp
            go_wp2
            go_round
            case rel => exact ⟨j + 1, m' / 2 ^^^ 3988292384, y' / 2, by omega, h4, by omega, ⟨hy2.out, by rw [h3.out, halfs_succ, hq.out.2]⟩, by rw [← e2]; rfl, by go_num, by go_num⟩
            case measure => simp [intOf]; omega
        · have : j = 8 := by omega
          subst this
          have hfin : Hid (Crc.fold ((nums bs).take (k + 1)) t = m') := by
            have hx2 : (nums bs)[k]? = some x.toNat := by simp [nums, hx2.out]
            show Crc.fold ((nums bs).take (k + 1)) t = m'
            rw [List.take_add_one, hx2, Crc.fold_append, hx'.out]
            have h1 := hq.out.1
            have h2 : y' = 0 := by omega
            have h3 := hq.out.2
            rw [h2, Nat.xor_zero] at h3
            exact h3.symm
          clear hx'
          go_wp2
          go_round
          case rel => exact ⟨k + 1, m', by omega, hm', hfin, rfl, by go_num⟩
          case measure => simp [intOf]; omega
    · have : k = n := by omega
      subst this
      have hfin : Hid (4294967295 - (m : Int) = (Crc.more s (nums bs) : Nat)) := by
        have h1 := hx'.out
        rw [List.take_of_length_le (by rw [nums_length, hb'.out.len]; exact Nat.le_refl _)] at h1
        show _ = _
        unfold Crc.more
        rw [← Et.out, h1]
        omega
      go_wp2
      go_ret
      exact ⟨ret_int hfin.out, rfl⟩
end Go.Proofs.Ytbfefjlilmoigaa
