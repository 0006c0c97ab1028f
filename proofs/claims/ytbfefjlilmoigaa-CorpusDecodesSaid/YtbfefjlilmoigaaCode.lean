/- The plain law of numbers in bytes: a number that is put is got as it was; what is got has just those bytes. -/
namespace Go.Proofs.Ytbfefjlilmoigaa.Code

/-- A number's bytes (f: how many may stand ahead of the last one). -/
def putF : Nat → Nat → List UInt8
  | 0, n => [UInt8.ofNat n]
  | f + 1, n => if n < 128 then [UInt8.ofNat n] else UInt8.ofNat (n % 128 + 128) :: putF f (n / 128)
def putN (n : Nat) : List UInt8 := putF 4 n

/-- What bytes are as a number: it, how many bytes it has, and the error's number. -/
def getF : Nat → Nat → Nat → List UInt8 → Nat × Nat × Nat
  | 0, _, _, _ => (0, 0, 3)
  | _ + 1, _, _, [] => (0, 0, 4)
  | f + 1, i, n, x :: xs =>
    if 128 ≤ x.toNat then getF f (i + 1) (n + x.toNat % 128 * 128 ^ i) xs
    else if (x.toNat = 0 ∧ 0 < i) ∨ 4294967296 ≤ n + x.toNat % 128 * 128 ^ i then (0, 0, 3) else (n + x.toNat % 128 * 128 ^ i, i + 1, 0)

/-- What stands at a place. -/
def getN (bs : List UInt8) (at_ : Int) : Nat × Int × Nat :=
  if at_ < 0 ∨ (bs.length : Int) < at_ then (0, 0, 1)
  else match getF 5 0 0 (bs.drop at_.toNat) with
    | (v, k, 0) => (v, at_ + k, 0)
    | (_, _, e) => (0, 0, e)

theorem putF_small (f n : Nat) (h : n < 128) : putF f n = [UInt8.ofNat n] := by
  cases f with
  | zero => rfl
  | succ f => simp [putF, h]

theorem putF_more (f n : Nat) (h : ¬ n < 128) : putF (f + 1) n = UInt8.ofNat (n % 128 + 128) :: putF f (n / 128) := by simp [putF, h]

theorem putF_len (f n : Nat) : 1 ≤ (putF f n).length ∧ (putF f n).length ≤ f + 1 := by
  induction f generalizing n with
  | zero => simp [putF]
  | succ f ih =>
    unfold putF
    split
    · simp
    · have := ih (n / 128); simp; omega

/-- What is put is got. -/
theorem getF_putF (f i acc n : Nat) (tail : List UInt8) (hn : n < 128 ^ (f + 1)) (hnz : 0 < i → 0 < n) (h32 : acc + n * 128 ^ i < 4294967296) :
    getF (f + 1) i acc (putF f n ++ tail) = (acc + n * 128 ^ i, i + (putF f n).length, 0) := by
  induction f generalizing i acc n with
  | zero =>
    have h1 : n < 128 := by simpa using hn
    have e : (UInt8.ofNat n).toNat = n := by rw [UInt8.toNat_ofNat']; omega
    simp only [putF, List.singleton_append, getF, e]
    rw [if_neg (by omega), Nat.mod_eq_of_lt h1, if_neg (by omega)]
    simp
  | succ f ih =>
    by_cases h1 : n < 128
    · rw [putF_small _ _ h1]
      have e : (UInt8.ofNat n).toNat = n := by rw [UInt8.toNat_ofNat']; omega
      simp only [List.singleton_append, getF, e]
      rw [if_neg (by omega), Nat.mod_eq_of_lt h1, if_neg (by omega)]
      simp
    · rw [putF_more _ _ h1]
      have e : (UInt8.ofNat (n % 128 + 128)).toNat = n % 128 + 128 := by rw [UInt8.toNat_ofNat']; omega
      simp only [List.cons_append]
      rw [getF, e, if_pos (by omega)]
      have e2 : (n % 128 + 128) % 128 = n % 128 := by omega
      rw [e2]
      have e3 : n * 128 ^ i = n % 128 * 128 ^ i + n / 128 * 128 ^ (i + 1) := by
        rw [Nat.pow_succ, ← Nat.mul_assoc, Nat.mul_right_comm, ← Nat.add_mul]
        congr 1
        omega
      have hd : n / 128 < 128 ^ (f + 1) := by
        rw [Nat.pow_succ] at hn
        exact Nat.div_lt_of_lt_mul (by rw [Nat.mul_comm]; exact hn)
      have h := ih (i + 1) (acc + n % 128 * 128 ^ i) (n / 128) hd (fun _ => by omega) (by omega)
      rw [h]
      simp only [Prod.mk.injEq, List.length_cons, and_true]
      omega

/-- What is got has just those bytes. -/
theorem putF_getF (f i acc : Nat) (bs : List UInt8) (v k : Nat) (h : getF (f + 1) i acc bs = (v, k, 0)) :
    ∃ n, v = acc + n * 128 ^ i ∧ v < 4294967296 ∧ i < k ∧ k ≤ i + bs.length ∧ putF f n = bs.take (k - i) ∧ (0 < i → 0 < n) ∧ n < 128 ^ (f + 1) := by
  induction f generalizing i acc bs with
  | zero =>
    cases bs with
    | nil => simp [getF] at h
    | cons x xs =>
      rw [getF] at h
      split at h
      · simp [getF] at h
      · rename_i h1
        split at h
        · simp at h
        · rename_i h2
          simp only [Prod.mk.injEq, and_true] at h
          obtain ⟨rfl, rfl⟩ := h
          have e : x.toNat % 128 = x.toNat := by omega
          refine ⟨x.toNat, by rw [e], by omega, by omega, by simp, ?_, ?_, by simp; omega⟩
          · simp [putF]
          · intro hi; rcases Nat.eq_zero_or_pos x.toNat with h3 | h3
            · exact absurd (Or.inl ⟨h3, hi⟩) h2
            · exact h3
  | succ f ih =>
    cases bs with
    | nil => simp [getF] at h
    | cons x xs =>
      rw [getF] at h
      split at h
      · rename_i h1
        obtain ⟨n, hv, h32, hk, hlen, hput, hpos, hlt⟩ := ih (i + 1) _ xs h
        have hn0 := hpos (by omega)
        have hx := x.toNat_lt
        refine ⟨x.toNat % 128 + 128 * n, ?_, h32, by omega, by simp; omega, ?_, fun _ => by omega, ?_⟩
        · rw [hv, Nat.pow_succ]
          rw [Nat.add_mul, Nat.add_assoc]
          congr 2
          rw [Nat.mul_comm (128 ^ i) 128, ← Nat.mul_assoc, Nat.mul_comm n 128]
        · rw [putF_more _ _ (by omega), show (x.toNat % 128 + 128 * n) % 128 + 128 = x.toNat by omega, show (x.toNat % 128 + 128 * n) / 128 = n by omega, hput,
            show k - i = (k - (i + 1)) + 1 by omega, List.take_succ_cons]
          simp
        · have : 128 ^ (f + 1 + 1) = 128 * 128 ^ (f + 1) := by rw [Nat.pow_succ, Nat.mul_comm]
          omega
      · rename_i h1
        split at h
        · simp at h
        · rename_i h2
          simp only [Prod.mk.injEq, and_true] at h
          obtain ⟨rfl, rfl⟩ := h
          have e : x.toNat % 128 = x.toNat := by omega
          have h128 : 128 ≤ 128 ^ (f + 1 + 1) := by
            have := Nat.pow_le_pow_right (n := 128) (by omega) (show 1 ≤ f + 1 + 1 by omega)
            simpa using this
          refine ⟨x.toNat, by rw [e], by omega, by omega, by simp, ?_, ?_, by omega⟩
          · rw [putF_small _ _ (by omega)]
            simp
          · intro hi; rcases Nat.eq_zero_or_pos x.toNat with h3 | h3
            · exact absurd (Or.inl ⟨h3, hi⟩) h2
            · exact h3

end Go.Proofs.Ytbfefjlilmoigaa.Code
