/- Walks over crc. -/
import Derived.Test.YtbfefjlilmoigaaBase
namespace Go.Proofs.Ytbfefjlilmoigaa
open Go.RowKit
set_option linter.unusedVariables false

theorem halfs_succ (k x : Nat) : Crc.halfs (k + 1) x = Crc.half (Crc.halfs k x) := by rw [Crc.halfs_add]; rfl

theorem half_any (x : Nat) (w : World) (hx : x < 4294967296) :
    Calls Try.prog 46 #[.int .u32 x] w fun e w' => e = .returned (.int .u32 (Crc.halfs 4 x)) ∧ w = w' := by
  go_enter Try.func46, Try.ntmps46
  go_wp2
  go_loop [0, 4] (fun y i => ∃ k m : Nat, k ≤ 4 ∧ m < 4294967296 ∧ Crc.halfs k x = m ∧ y = .int .u32 m ∧ i = .int .i64 k) (fun _ i => 4 - (intOf i).toNat)
  case atStart => exact ⟨0, x, by omega, hx, rfl, rfl, rfl⟩
  case round =>
    obtain ⟨k, m, hk, hm, hx', rfl, rfl⟩ := hrel
    have H := hide hx'; clear hx'
    by_cases hlt : k < 4
    · have e1 := and_one m hm
      have e2 := xor_poly (m / 2) (by omega)
      by_cases hp : m % 2 = 1
      · have t : (bits BinOp.and IntKind.u32 (m : Int) 1 == 1) = true := by rw [e1, hp]; rfl
        have hh : Crc.half m = (m / 2) ^^^ 3988292384 := by simp [Crc.half, hp]
        have hlt' := Crc.half_lt m hm
        rw [hh] at hlt'
        have G := hide hh; clear hh
        clear e1 hp
        go_wp2
        go_round
        case rel => exact ⟨k + 1, _, by omega, hlt', by rw [halfs_succ, H.out, G.out], by rw [← e2]; rfl, by go_num⟩
        case measure => simp [intOf]; omega
      · have t : (bits BinOp.and IntKind.u32 (m : Int) 1 == 1) = false := by rw [e1, show m % 2 = 0 by omega]; rfl
        have hh : Crc.half m = (m / 2) := by simp [Crc.half, hp]
        have G := hide hh; clear hh
        clear e1 hp
        go_wp2
        go_round
        case rel => exact ⟨k + 1, m / 2, by omega, by omega, by rw [halfs_succ, H.out, G.out], by go_num, by go_num⟩
        case measure => simp [intOf]; omega
    · have : k = 4 := by omega
      subst this
      go_wp2
      go_ret
      exact ⟨ret_int (by rw [H.out]), rfl⟩
end Go.Proofs.Ytbfefjlilmoigaa
