/- Walks over code: numbers got. -/
import Derived.Test.YtbfefjlilmoigaaT10
namespace Go.Proofs.Ytbfefjlilmoigaa
open Go.RowKit
set_option linter.unusedVariables false

theorem low7 (x : UInt8) : bits .andNot .u8 (x.toNat : Int) 128 = ((x.toNat % 128 : Nat) : Int) := by
  have h := u8_andNot_nat x.toNat 128 x.toNat_lt (by omega)
  rw [show (255 - 128 : Nat) = 2 ^ 7 - 1 from rfl, Nat.and_two_pow_sub_one_eq_mod] at h
  exact h
theorem top_on (x : UInt8) (h : 128 ≤ x.toNat) : (bits .and .u8 (x.toNat : Int) 128 != 0) = true := by
  have h1 : ∀ z, z < 256 → 128 ≤ z → z &&& 128 = 128 := by decide +kernel
  have h2 := u8_and_nat x.toNat 128 x.toNat_lt (by omega)
  rw [h1 _ x.toNat_lt h] at h2
  have h3 : bits .and .u8 (x.toNat : Int) 128 = 128 := h2
  rw [h3]; rfl
theorem top_off (x : UInt8) (h : x.toNat < 128) : (bits .and .u8 (x.toNat : Int) 128 != 0) = false := by
  have h1 : ∀ z, z < 128 → z &&& 128 = 0 := by decide +kernel
  have h2 := u8_and_nat x.toNat 128 x.toNat_lt (by omega)
  rw [h1 _ h] at h2
  have h3 : bits .and .u8 (x.toNat : Int) 128 = 0 := h2
  rw [h3]; rfl

theorem shl7 (y j one : Nat) (hy : y < 128) (hj : j ≤ 4) (h1 : one = 128 ^ j) : IntKind.u64.wrap ((y : Int) * 2 ^ (7 * j)) = ((y * one : Nat) : Int) := by
  have hone : one ≤ 128 ^ 4 := by rw [h1]; exact Nat.pow_le_pow_right (by omega) hj
  have e : ((2 : Int) ^ (7 * j)) = ((one : Nat) : Int) := by
    rw [h1, show (128 : Nat) = 2 ^ 7 from rfl, ← Nat.pow_mul]; simp
  have hp : y * one ≤ 127 * 128 ^ 4 := Nat.mul_le_mul (by omega) hone
  rw [e, ← Int.natCast_mul]
  exact IntWalk.u64_in _ ⟨Int.natCast_nonneg _, by omega⟩

theorem or7 (acc y j one : Nat) (hacc : acc < one) (hy : y < 128) (hj : j ≤ 4) (h1 : one = 128 ^ j) : bits .or .u64 (acc : Int) ((y * one : Nat) : Int) = ((acc + y * one : Nat) : Int) := by
  have hone : one ≤ 128 ^ 4 := by rw [h1]; exact Nat.pow_le_pow_right (by omega) hj
  have hp : y * one ≤ 127 * 128 ^ 4 := Nat.mul_le_mul (by omega) hone
  rw [u64_or_nat acc (y * one) (by omega) (by omega)]
  have e : one = 2 ^ (7 * j) := by rw [h1, show (128 : Nat) = 2 ^ 7 from rfl, ← Nat.pow_mul]
  rw [e] at hacc ⊢
  have h := Nat.two_pow_add_eq_or_of_lt hacc y
  rw [Nat.mul_comm y, Nat.add_comm, h, Nat.or_comm]

set_option maxRecDepth 100000 in
theorem get_any (A : Option Addr) (n c : Nat) (bs : List UInt8) (at_ : Int) (w : World) (hb : Bytes w A n bs) (hn : n ≤ 100000000) (hnc : n ≤ c) (hcm : c ≤ 9223372036854775807) (hlo : -9223372036854775808 ≤ at_) (hhi : at_ ≤ 9223372036854775807) :
    Calls Try.prog 30 #[.slice A n c, .int .i64 at_] w fun e w' => e = .returned (got (Code.getN bs at_)) ∧ w = w' := by
  have H := hide hb
  have hl := hide hb.len
  clear hb
  by_cases h1 : at_ < 0
  · have hf := hide (getN_out bs at_ (.inl h1))
    go_enter Try.func30, Try.ntmps30
    go_wp2
    go_ret3
    exact ⟨by rw [hf.out]; rfl, rfl⟩
  by_cases h2 : (n : Int) < at_
  · have hf := hide (getN_out bs at_ (.inr (by rw [hl.out]; exact h2)))
    go_enter Try.func30, Try.ntmps30
    go_wp2
    go_ret3
    exact ⟨by rw [hf.out]; rfl, rfl⟩
  obtain ⟨k, rfl⟩ := Int.eq_ofNat_of_zero_le (by omega : 0 ≤ at_)
  have hk : k ≤ n := by omega
  have d1 : decide ((k : Int) < 0) = false := by simp
  clear h1 hlo hhi
  by_cases hkn : k = n
  · subst hkn
    have hf : Hid (Code.getN bs k = (0, 0, 4)) := getN_err bs k 4 (by rw [hl.out]; exact hk) (by omega) 0 0 (getF_end _ _ _ _ _ (by rw [hl.out]; exact Nat.le_refl _))
    go_enter Try.func30, Try.ntmps30
    by_cases hck : c = k
    all_goals
      go_wp2_with fail
      go_loop [22] (fun i => i = .int .i64 0) (fun _ => 0)
      case atStart => rfl
      case round =>
        obtain rfl := hrel
        go_wp2
        go_ret3
        exact ⟨by rw [hf.out]; rfl, rfl⟩
  · obtain ⟨b, o, _, rfl, _, _⟩ := H.out.at_ (k := 0) (by omega)
    have hck : ¬ c = k := by omega
    go_enter Try.func30, Try.ntmps30
    go_wp2_with fail
    go_loop [7, 22] (fun a i => ∃ j acc one : Nat, j ≤ 4 ∧ k + j ≤ n ∧ acc < one ∧ a = .int .u64 acc ∧ i = .int .i64 j ∧ Hid (one = 128 ^ j ∧ Code.getF (5 - j) j acc (bs.drop (k + j)) = Code.getF 5 0 0 (bs.drop k))) (fun _ i => 5 - (intOf i).toNat)
    case atStart => exact ⟨0, 0, 1, by omega, by omega, by omega, rfl, rfl, rfl, rfl⟩
    case round =>
      obtain ⟨j, acc, one, hj, hkj, hacc, rfl, rfl, hrel⟩ := hrel
      by_cases hend : n ≤ k + j
      · have hf : Hid (Code.getN bs k = (0, 0, 4)) := getN_err bs k 4 (by rw [hl.out]; exact hk) (by omega) 0 0 (by
          rw [← hrel.out.2, show 5 - j = (4 - j) + 1 by omega]
          exact getF_end _ _ _ _ _ (by rw [hl.out]; exact hend))
        go_wp2
        go_ret3
        exact ⟨by rw [hf.out]; rfl, rfl⟩
      · obtain ⟨b', o', x, hA, hx, hc⟩ := H.out.at_ (k := k + j) (by omega)
        injection hA with hA
        injection hA with hA1 hA2
        subst hA1 hA2
        rw [← Nat.add_assoc] at hc
        have x256 := x.toNat_lt
        have e1 := low7 x
        obtain ⟨y, hy⟩ : ∃ y, y = x.toNat % 128 := ⟨_, rfl⟩
        rw [← hy] at e1
        have y128 : y < 128 := by omega
        have hst := getF_step (4 - j) j acc bs (k + j) x hx
        have h1 := hrel.out.1
        have h2 := hrel.out.2
        rw [show 5 - j = (4 - j) + 1 by omega, hst, ← h1, ← hy] at h2
        have hpow : one * 128 = 128 ^ (j + 1) := by rw [h1, Nat.pow_succ]
        have hone : one ≤ 128 ^ 4 := by rw [h1]; exact Nat.pow_le_pow_right (by omega) hj
        have e2 := shl7 y j one y128 hj h1
        have e3 := or7 acc y j one hacc y128 hj h1
        have hp2 : y * one ≤ 127 * one := Nat.mul_le_mul_right _ (by omega)
        have HP := hide hpow
        obtain ⟨p, hp⟩ : ∃ p, p = y * one := ⟨_, rfl⟩
        rw [← hp] at e2 e3 h2 hp2
        obtain ⟨v, hv⟩ : ∃ v, v = acc + p := ⟨_, rfl⟩
        rw [← hv] at e3 h2
        have hv2 : v < one * 128 := by omega
        have hv3 : v < 128 ^ 5 := by omega
        have hx' := hide hx
        have hy' := hide hy
        have ho' := hide hone
        have hv' := hide hv
        have hp2' := hide hp2
        clear hx hst h1 hpow hp hv hy hrel hone hp2
        by_cases hx1 : 128 ≤ x.toNat
        · have t1 := top_on x hx1
          rw [if_pos hx1] at h2
          have H2 := hide h2
          clear h2
          by_cases hj4 : j < 4
          · go_wp2
            go_round
            case rel => exact ⟨j + 1, v, one * 128, by omega, by omega, hv2, rfl, by go_num, HP.out, by rw [← H2.out, show 5 - (j + 1) = 4 - j by omega]; rfl⟩
            case measure => simp [intOf]; omega
          · have hj4' : j = 4 := by omega
            subst hj4'
            have hf : Hid (Code.getN bs k = (0, 0, 3)) := getN_err bs k 3 (by rw [hl.out]; exact hk) (by omega) 0 0 H2.out.symm
            clear H2
            go_wp2
            go_ret3
            exact ⟨by rw [hf.out]; rfl, rfl⟩
        · have t1 := top_off x (by omega)
          rw [if_neg hx1] at h2
          by_cases hz0 : x.toNat = 0
          · have t2 : ((x.toNat : Int) == 0) = true := by simp; exact hz0
            by_cases hj0 : 0 < j
            · rw [if_pos (.inl ⟨hz0, hj0⟩)] at h2
              have hf : Hid (Code.getN bs k = (0, 0, 3)) := getN_err bs k 3 (by rw [hl.out]; exact hk) (by omega) 0 0 h2.symm
              clear h2 hz0
              go_wp2
              go_ret3
              exact ⟨by rw [hf.out]; rfl, rfl⟩
            · have hv0 : v < 4294967296 := by
                have := hv'.out
                have := hp2'.out
                have h128 : one * 128 = 128 ^ (j + 1) := HP.out
                rw [show j + 1 = 1 by omega] at h128
                omega
              rw [if_neg (by intro h; rcases h with h | h; exact hj0 h.2; omega)] at h2
              have hf : Hid (Code.getN bs k = (v, (k : Int) + (j + 1 : Nat), 0)) := getN_ok bs k v (j + 1) (by rw [hl.out]; exact hk) h2.symm
              have t3 : ((v : Int) / 4294967296 != 0) = false := by simp; omega
              have t4 : ¬ (0 : Int) < (j : Int) := by omega
              clear h2 hz0 hj0
              go_wp2
              go_ret3
              refine ⟨?_, rfl⟩
              rw [hf.out]
              simp [got]
              omega
          · have t2 : ((x.toNat : Int) == 0) = false := by simp; exact hz0
            by_cases hbig : 4294967296 ≤ v
            · rw [if_pos (.inr hbig)] at h2
              have hf : Hid (Code.getN bs k = (0, 0, 3)) := getN_err bs k 3 (by rw [hl.out]; exact hk) (by omega) 0 0 h2.symm
              have t3 : ((v : Int) / 4294967296 != 0) = true := by simp; omega
              clear h2 hz0 hbig
              go_wp2
              go_ret3
              exact ⟨by rw [hf.out]; rfl, rfl⟩
            · rw [if_neg (by intro h; rcases h with h | h; exact hz0 h.1; exact hbig h)] at h2
              have hf : Hid (Code.getN bs k = (v, (k : Int) + (j + 1 : Nat), 0)) := getN_ok bs k v (j + 1) (by rw [hl.out]; exact hk) h2.symm
              have t3 : ((v : Int) / 4294967296 != 0) = false := by simp; omega
              have v32 : v < 4294967296 := by omega
              clear h2 hz0 hbig
              go_wp2
              go_ret3
              refine ⟨?_, rfl⟩
              rw [hf.out]
              simp [got]
              omega
end Go.Proofs.Ytbfefjlilmoigaa
