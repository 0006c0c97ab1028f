/- Walks over code's reference: numbers got. -/
import Derived.Test.YtbfefjlilmoigaaT9
namespace Go.Proofs.Ytbfefjlilmoigaa
open Go.RowKit
set_option linter.unusedVariables false

/-- The three results of Get. -/
def got (r : Nat × Int × Nat) : Value := .tuple #[.int .u32 (r.1 : Int), .int .i64 r.2.1, .int .i64 (r.2.2 : Int)]

theorem getN_out (bs : List UInt8) (at_ : Int) (h : at_ < 0 ∨ (bs.length : Int) < at_) : Code.getN bs at_ = (0, 0, 1) := by unfold Code.getN; rw [if_pos h]
theorem getN_err (bs : List UInt8) (k e : Nat) (hk : k ≤ bs.length) (he : e ≠ 0) (a b : Nat) (h : Code.getF 5 0 0 (bs.drop k) = (a, b, e)) : Code.getN bs k = (0, 0, e) := by
  unfold Code.getN
  rw [if_neg (by omega), Int.toNat_natCast, h]
  cases e with
  | zero => exact absurd rfl he
  | succ e => rfl
theorem getN_ok (bs : List UInt8) (k v j : Nat) (hk : k ≤ bs.length) (h : Code.getF 5 0 0 (bs.drop k) = (v, j, 0)) : Code.getN bs k = (v, (k : Int) + j, 0) := by
  unfold Code.getN
  rw [if_neg (by omega), Int.toNat_natCast, h]
  rfl

theorem getF_end (f i acc : Nat) (l : List UInt8) (k : Nat) (h : l.length ≤ k) : Code.getF (f + 1) i acc (l.drop k) = (0, 0, 4) := by
  rw [List.drop_eq_nil_of_le h]; rfl
theorem getF_step (f i acc : Nat) (l : List UInt8) (k : Nat) (x : UInt8) (h : l[k]? = some x) :
    Code.getF (f + 1) i acc (l.drop k) = if 128 ≤ x.toNat then Code.getF f (i + 1) (acc + x.toNat % 128 * 128 ^ i) (l.drop (k + 1))
      else if (x.toNat = 0 ∧ 0 < i) ∨ 4294967296 ≤ acc + x.toNat % 128 * 128 ^ i then (0, 0, 3) else (acc + x.toNat % 128 * 128 ^ i, i + 1, 0) := by
  have hk : k < l.length := (List.getElem?_eq_some_iff.1 h).1
  have hx : l[k] = x := (List.getElem?_eq_some_iff.1 h).2
  rw [List.drop_eq_getElem_cons hk, hx]
  rfl

set_option maxRecDepth 100000 in
theorem rget_any (A : Option Addr) (n c : Nat) (bs : List UInt8) (at_ : Int) (w : World) (hb : Bytes w A n bs) (hn : n ≤ 100000000) (hlo : -9223372036854775808 ≤ at_) (hhi : at_ ≤ 9223372036854775807) :
    Calls Try.prog 31 #[.slice A n c, .int .i64 at_] w fun e w' => e = .returned (got (Code.getN bs at_)) ∧ w = w' := by
  have H := hide hb
  have hl := hide hb.len
  clear hb
  by_cases h1 : at_ < 0
  · have hf := hide (getN_out bs at_ (.inl h1))
    go_enter Try.func31, Try.ntmps31
    go_wp2
    go_ret3
    exact ⟨by rw [hf.out]; rfl, rfl⟩
  by_cases h2 : (n : Int) < at_
  · have hf := hide (getN_out bs at_ (.inr (by rw [hl.out]; exact h2)))
    go_enter Try.func31, Try.ntmps31
    go_wp2
    go_ret3
    exact ⟨by rw [hf.out]; rfl, rfl⟩
  obtain ⟨k, rfl⟩ := Int.eq_ofNat_of_zero_le (by omega : 0 ≤ at_)
  have hk : k ≤ n := by omega
  have d1 : decide ((k : Int) < 0) = false := by simp
  clear h1 hlo hhi
  go_enter Try.func31, Try.ntmps31
  go_wp2_with fail
  go_loop [7, 8, 9] (fun a o i => ∃ j acc one : Nat, j ≤ 5 ∧ k + j ≤ n ∧ acc < one ∧ a = .int .u64 acc ∧ o = .int .u64 one ∧ i = .int .i64 j ∧ Hid (one = 128 ^ j ∧ Code.getF (5 - j) j acc (bs.drop (k + j)) = Code.getF 5 0 0 (bs.drop k))) (fun _ _ i => 5 - (intOf i).toNat)
  case atStart => exact ⟨0, 0, 1, by omega, by omega, by omega, rfl, rfl, rfl, rfl, rfl⟩
  case round =>
    obtain ⟨j, acc, one, hj, hkj, hacc, rfl, rfl, rfl, hrel⟩ := hrel
    by_cases hj5 : j < 5
    · by_cases hend : n ≤ k + j
      · have hf : Hid (Code.getN bs k = (0, 0, 4)) := getN_err bs k 4 (by rw [hl.out]; exact hk) (by omega) 0 0 (by
          rw [← hrel.out.2, show 5 - j = (4 - j) + 1 by omega]
          exact getF_end _ _ _ _ _ (by rw [hl.out]; exact hend))
        go_wp2
        go_ret3
        exact ⟨by rw [hf.out]; rfl, rfl⟩
      · obtain ⟨b, o, x, rfl, hx, hc⟩ := H.out.at_ (k := k + j) (by omega)
        have hst := getF_step (4 - j) j acc bs (k + j) x hx
        have h1 := hrel.out.1
        have h2 := hrel.out.2
        rw [show 5 - j = (4 - j) + 1 by omega, hst, ← h1] at h2
        have hone : one ≤ 268435456 ∧ (j = 0 ∨ 0 < j) := by
          refine ⟨?_, by omega⟩
          rw [h1]
          exact Nat.pow_le_pow_right (n := 128) (by omega) (show j ≤ 4 by omega)
        have x256 := x.toNat_lt
        obtain ⟨p, hp⟩ : ∃ p, p = x.toNat % 128 * one := ⟨_, rfl⟩
        have hp2 : p ≤ 127 * one := by rw [hp]; exact Nat.mul_le_mul_right _ (by omega)
        have ep : (one : Int) * ((x.toNat : Int) % 128) = (p : Int) := by rw [hp]; push_cast; rw [Int.mul_comm]
        rw [← hp] at h2
        have hpow : one * 128 = 128 ^ (j + 1) := by rw [h1, Nat.pow_succ]
        have Hx := hide hx
        have H1 := hide h1
        have HP := hide hpow
        clear hst hp hx h1 hpow hrel
        by_cases hx1 : 128 ≤ x.toNat
        · rw [if_pos hx1] at h2
          have H2 := hide h2
          clear h2
          go_wp2
          go_round
          case rel => exact ⟨j + 1, acc + p, one * 128, by omega, by omega, by omega, by go_num, by go_num, by go_num, HP.out, by rw [← H2.out, show 5 - (j + 1) = 4 - j by omega]; rfl⟩
          case measure => simp [intOf]; omega
        · rw [if_neg hx1] at h2
          by_cases hz : x.toNat = 0 ∧ 0 < j
          · rw [if_pos (.inl hz)] at h2
            have hf : Hid (Code.getN bs k = (0, 0, 3)) := getN_err bs k 3 (by rw [hl.out]; exact hk) (by omega) 0 0 h2.symm
            have t1 : ((x.toNat : Int) == 0) = true := by simp; exact hz.1
            have t2 : (0 : Int) < (j : Int) := by omega
            have hz' := hide hz
            clear h2 hz
            go_wp2
            go_ret3
            exact ⟨by rw [hf.out]; rfl, rfl⟩
          · by_cases hbig : 4294967296 ≤ acc + p
            · rw [if_pos (.inr hbig)] at h2
              have hf : Hid (Code.getN bs k = (0, 0, 3)) := getN_err bs k 3 (by rw [hl.out]; exact hk) (by omega) 0 0 h2.symm
              have hz' := hide hz
              have hbI : (4294967296 : Int) ≤ (acc : Int) + (p : Int) := by omega
              clear h2 hz hbig
              by_cases hz0 : x.toNat = 0
              · have t1 : ((x.toNat : Int) == 0) = true := by simp; exact hz0
                have t2 : ¬ (0 : Int) < (j : Int) := fun h => hz'.out ⟨hz0, by omega⟩
                have hz0' := hide hz0
                clear hz0
                go_wp2
                go_ret3
                exact ⟨by rw [hf.out]; rfl, rfl⟩
              · have t1 : ((x.toNat : Int) == 0) = false := by simp; exact hz0
                have hz0' := hide hz0
                clear hz0
                go_wp2
                go_ret3
                exact ⟨by rw [hf.out]; rfl, rfl⟩
            · rw [if_neg (by intro h; rcases h with h | h; exact hz h; exact hbig h)] at h2
              have hf : Hid (Code.getN bs k = (acc + p, (k : Int) + (j + 1 : Nat), 0)) := getN_ok bs k (acc + p) (j + 1) (by rw [hl.out]; exact hk) h2.symm
              have hz' := hide hz
              obtain ⟨v, hv⟩ : ∃ v, v = acc + p := ⟨_, rfl⟩
              have eV : (acc : Int) + (p : Int) = (v : Int) := by omega
              have v32 : v < 4294967296 := by omega
              have t3 : decide ((4294967296 : Int) ≤ (v : Int)) = false := by simp; omega
              rw [← hv] at hf
              clear h2 hz hbig hv
              by_cases hz0 : x.toNat = 0
              · have t1 : ((x.toNat : Int) == 0) = true := by simp; exact hz0
                have t2 : ¬ (0 : Int) < (j : Int) := fun h => hz'.out ⟨hz0, by omega⟩
                have hz0' := hide hz0
                clear hz0
                go_wp2
                go_ret3
                refine ⟨?_, rfl⟩
                rw [hf.out]
                simp [got]
                omega
              · have t1 : ((x.toNat : Int) == 0) = false := by simp; exact hz0
                have hz0' := hide hz0
                clear hz0
                go_wp2
                go_ret3
                refine ⟨?_, rfl⟩
                rw [hf.out]
                simp [got]
                omega
    · have hj5' : j = 5 := by omega
      subst hj5'
      have hf : Hid (Code.getN bs k = (0, 0, 3)) := getN_err bs k 3 (by rw [hl.out]; exact hk) (by omega) 0 0 (by rw [← hrel.out.2]; rfl)
      clear hrel
      go_wp2
      go_ret3
      exact ⟨by rw [hf.out]; rfl, rfl⟩
end Go.Proofs.Ytbfefjlilmoigaa
