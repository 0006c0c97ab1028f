/- The plain law of the sum over bytes (CRC-32, bit by bit, over natural numbers): the sum goes on part by part; a frame of which some of 32 bits that follow each other are turned is none. -/
namespace Go.Proofs.Ytbfefjlilmoigaa.Crc

/-- One bit of the sum. -/
def half (x : Nat) : Nat := if x % 2 = 1 then (x / 2) ^^^ 3988292384 else x / 2

theorem xor_mod2 (a b : Nat) : (a ^^^ b) % 2 = (a % 2 + b % 2) % 2 := by
  have h := Nat.testBit_xor a b 0
  simp only [Nat.testBit_zero] at h
  by_cases h1 : a % 2 = 1 <;> by_cases h2 : b % 2 = 1 <;> by_cases h3 : (a ^^^ b) % 2 = 1 <;> simp [h1, h2, h3] at h <;> omega

theorem xor_div2 (a b : Nat) : (a ^^^ b) / 2 = (a / 2) ^^^ (b / 2) := by
  have := Nat.shiftRight_xor_distrib (a := a) (b := b) (i := 1)
  simpa [Nat.shiftRight_eq_div_pow] using this

theorem half_xor (a b : Nat) : half (a ^^^ b) = half a ^^^ half b := by
  unfold half
  rw [xor_mod2, xor_div2]
  have h1 : a % 2 = 0 ∨ a % 2 = 1 := by omega
  have h2 : b % 2 = 0 ∨ b % 2 = 1 := by omega
  rcases h1 with h1 | h1 <;> rcases h2 with h2 | h2 <;> simp [h1, h2]
  · rw [Nat.xor_assoc]
  · rw [Nat.xor_assoc, Nat.xor_assoc, Nat.xor_comm (b/2)]
  · have : ∀ x y p : Nat, (x ^^^ p) ^^^ (y ^^^ p) = x ^^^ y := by
      intro x y p
      rw [Nat.xor_assoc, Nat.xor_comm y p, ← Nat.xor_assoc p p y, Nat.xor_self, Nat.zero_xor]
    rw [this]

theorem half_lt (x : Nat) (h : x < 4294967296) : half x < 4294967296 := by
  unfold half
  split
  · exact Nat.xor_lt_two_pow (n := 32) (by omega) (by omega)
  · omega

theorem half_two (m : Nat) : half (2 * m) = m := by
  unfold half
  have : (2 * m) % 2 = 0 := by omega
  simp [this]

theorem half_ne (x : Nat) (h : x < 4294967296) (h0 : x ≠ 0) : half x ≠ 0 := by
  unfold half
  split
  · intro e
    have e2 : x / 2 = 3988292384 := by
      have := congrArg (· ^^^ 3988292384) e
      simpa [Nat.xor_assoc] using this
    omega
  · omega

/-- k bits of the sum. -/
def halfs : Nat → Nat → Nat
  | 0, x => x
  | k + 1, x => halfs k (half x)

theorem halfs_xor (k a b : Nat) : halfs k (a ^^^ b) = halfs k a ^^^ halfs k b := by
  induction k generalizing a b with
  | zero => rfl
  | succ k ih => simp only [halfs, half_xor, ih]

theorem halfs_lt (k x : Nat) (h : x < 4294967296) : halfs k x < 4294967296 := by
  induction k generalizing x with
  | zero => exact h
  | succ k ih => exact ih _ (half_lt x h)

theorem halfs_ne (k x : Nat) (h : x < 4294967296) (h0 : x ≠ 0) : halfs k x ≠ 0 := by
  induction k generalizing x with
  | zero => exact h0
  | succ k ih => exact ih _ (half_lt x h) (half_ne x h h0)

theorem halfs_pow (k m : Nat) : halfs k (2 ^ k * m) = m := by
  induction k generalizing m with
  | zero => simp [halfs]
  | succ k ih =>
    simp only [halfs]
    rw [show 2 ^ (k + 1) * m = 2 * (2 ^ k * m) by rw [Nat.pow_succ]; simp [Nat.mul_comm, Nat.mul_left_comm], half_two, ih]

theorem halfs_add (j k x : Nat) : halfs (j + k) x = halfs k (halfs j x) := by
  induction j generalizing x with
  | zero => simp [halfs]
  | succ j ih => rw [Nat.succ_add]; simp only [halfs]; exact ih _

/-- A number by its low k bits and the rest. -/
theorem split (k x : Nat) : x = (2 ^ k * (x / 2 ^ k)) ^^^ (x % 2 ^ k) := by
  apply Nat.eq_of_testBit_eq
  intro j
  rw [Nat.testBit_xor, Nat.testBit_mod_two_pow, Nat.testBit_two_pow_mul, ← Nat.shiftRight_eq_div_pow, Nat.testBit_shiftRight]
  by_cases h : j < k
  · have : ¬ (k ≤ j) := by omega
    simp [h, this]
  · have : k ≤ j := by omega
    simp [h, this]

theorem add_xor (k m r : Nat) (h : r < 2 ^ k) : 2 ^ k * m + r = (2 ^ k * m) ^^^ r := by
  have := split k (2 ^ k * m + r)
  rw [Nat.mul_add_div (Nat.two_pow_pos k), Nat.div_eq_of_lt h, Nat.mul_add_mod, Nat.mod_eq_of_lt h] at this
  simpa using this

/-- The low k bits decide; the rest comes down. -/
theorem halfs_low (k x : Nat) : halfs k x = (x / 2 ^ k) ^^^ halfs k (x % 2 ^ k) := by
  conv => lhs; rw [split k x]
  rw [halfs_xor, halfs_pow]

/-- One byte of the sum. -/
def byte (c x : Nat) : Nat := halfs 8 (c ^^^ x)
def fold : List Nat → Nat → Nat
  | [], c => c
  | x :: xs, c => fold xs (byte c x)

theorem fold_append (a b : List Nat) (c : Nat) : fold (a ++ b) c = fold b (fold a c) := by
  induction a generalizing c with
  | nil => rfl
  | cons x a ih => exact ih _

theorem xor_lt (a b : Nat) (ha : a < 4294967296) (hb : b < 256) : a ^^^ b < 4294967296 := Nat.xor_lt_two_pow (n := 32) (by omega) (by omega)

theorem fold_lt (bs : List Nat) (hb : ∀ x ∈ bs, x < 256) (c : Nat) (h : c < 4294967296) : fold bs c < 4294967296 := by
  induction bs generalizing c with
  | nil => exact h
  | cons x xs ih => exact ih (fun y hy => hb y (by simp [hy])) _ (halfs_lt 8 _ (xor_lt c x h (hb x (by simp))))

/-- The number of bytes, the lowest first. -/
def num : List Nat → Nat
  | [] => 0
  | x :: xs => x + 256 * num xs

theorem num_lt (bs : List Nat) (hb : ∀ x ∈ bs, x < 256) : num bs < 2 ^ (8 * bs.length) := by
  induction bs with
  | nil => simp [num]
  | cons x xs ih =>
    have h1 := ih (fun y hy => hb y (by simp [hy]))
    have h2 := hb x (by simp)
    have e : 2 ^ (8 * (x :: xs).length) = 256 * 2 ^ (8 * xs.length) := by
      rw [List.length_cons, Nat.mul_succ, Nat.pow_add, Nat.mul_comm]
    rw [e]
    simp only [num]
    omega

/-- The sum's road over bytes is that over their bits, held against it all at once. -/
theorem fold_num (bs : List Nat) (hb : ∀ x ∈ bs, x < 256) (c : Nat) : fold bs c = halfs (8 * bs.length) (c ^^^ num bs) := by
  induction bs generalizing c with
  | nil => simp [fold, num, halfs]
  | cons x xs ih =>
    have h2 := hb x (by simp)
    rw [fold, ih (fun y hy => hb y (by simp [hy]))]
    rw [show 8 * (x :: xs).length = 8 + 8 * xs.length by simp; omega, halfs_add]
    congr 1
    have e : num (x :: xs) = (2 ^ 8 * num xs) ^^^ x := by
      rw [← add_xor 8 (num xs) x (by omega)]; simp only [num]; omega
    have e3 : c ^^^ (2 ^ 8 * num xs ^^^ x) = (c ^^^ x) ^^^ 2 ^ 8 * num xs := by
      rw [Nat.xor_comm (2 ^ 8 * num xs) x, Nat.xor_assoc]
    rw [e, byte, e3, halfs_xor 8 (c ^^^ x), halfs_pow]

theorem num_append (a b : List Nat) : num (a ++ b) = num a + 2 ^ (8 * a.length) * num b := by
  induction a with
  | nil => simp [num]
  | cons x a ih =>
    simp only [List.cons_append, num, ih, List.length_cons]
    rw [Nat.mul_add, ← Nat.mul_assoc, show 256 * 2 ^ (8 * a.length) = 2 ^ (8 * (a.length + 1)) by rw [Nat.mul_succ, Nat.pow_add, Nat.mul_comm]]
    omega

/-- The four bytes of a sum, the lowest first. -/
def le (s : Nat) : List Nat := [s % 256, s / 256 % 256, s / 65536 % 256, s / 16777216 % 256]

theorem num_le (s : Nat) (h : s < 4294967296) : num (le s) = s := by simp only [le, num]; omega
theorem le_lt (s : Nat) : ∀ x ∈ le s, x < 256 := by intro x hx; simp [le] at hx; omega

/-- The sum of what had the sum s, and bytes behind it. -/
def more (s : Nat) (bs : List Nat) : Nat := 4294967295 - fold bs (4294967295 - s)
def frame (bs : List Nat) : List Nat := bs ++ le (more 0 bs)

theorem more_lt (s : Nat) (bs : List Nat) : more s bs < 4294967296 := by unfold more; omega
theorem frame_lt (bs : List Nat) (hb : ∀ x ∈ bs, x < 256) : ∀ x ∈ frame bs, x < 256 := by
  intro x hx
  rcases List.mem_append.1 hx with h | h
  · exact hb x h
  · exact le_lt _ x h
theorem frame_length (bs : List Nat) : (frame bs).length = bs.length + 4 := by simp [frame, le]

theorem more_more (s : Nat) (a b : List Nat) (h : s < 4294967296) (ha : ∀ x ∈ a, x < 256) : more (more s a) b = more s (a ++ b) := by
  have h1 := fold_lt a ha (4294967295 - s) (by omega)
  unfold more
  rw [fold_append, show 4294967295 - (4294967295 - fold a (4294967295 - s)) = fold a (4294967295 - s) by omega]

theorem not_xor (c : Nat) (h : c < 4294967296) : c ^^^ (4294967295 - c) = 4294967295 := by
  apply Nat.eq_of_testBit_eq
  intro j
  rw [Nat.testBit_xor, show 4294967295 - c = 2 ^ 32 - (c + 1) by omega, Nat.testBit_two_pow_sub_succ (by omega), show (4294967295 : Nat) = 2 ^ 32 - 1 by rfl, Nat.testBit_two_pow_sub_one]
  by_cases hj : j < 32
  · simp [hj]
  · have : c.testBit j = false := by
      have h2 : 2 ^ 32 ≤ 2 ^ j := Nat.pow_le_pow_right (by decide) (by omega)
      exact Nat.testBit_lt_two_pow (Nat.lt_of_lt_of_le (show c < 2 ^ 32 from h) h2)
    simp [hj, this]

/-- Whatever frame leads to one number. -/
theorem frame_rest (bs : List Nat) (hb : ∀ x ∈ bs, x < 256) : fold (frame bs) 4294967295 = halfs 32 4294967295 := by
  have h1 := fold_lt bs hb 4294967295 (by omega)
  rw [frame, fold_append, fold_num _ (le_lt _), num_le _ (more_lt _ _)]
  unfold more
  rw [not_xor _ h1]
  rfl

/-- A frame of which some of 32 bits that follow each other are turned is none. -/
theorem tells (g m m' f : List Nat) (hm : ∀ x ∈ m, x < 256) (hm' : ∀ x ∈ m', x < 256) (hg : g = frame m) (hf : f = frame m') (hlen : f.length = g.length) (bits from_ : Nat)
    (h0 : bits ≠ 0) (hb : bits < 4294967296) (hl : from_ + 32 ≤ 8 * g.length) (hn : num f = num g ^^^ (2 ^ from_ * bits)) : False := by
  have e1 := frame_rest m hm
  have e2 := frame_rest m' hm'
  rw [← hg, fold_num _ (hg ▸ frame_lt m hm)] at e1
  rw [← hf, fold_num _ (hf ▸ frame_lt m' hm'), hlen, hn, ← Nat.xor_assoc, halfs_xor, e1] at e2
  have e3 : halfs (8 * g.length) (2 ^ from_ * bits) = 0 := by
    have := congrArg (halfs 32 4294967295 ^^^ ·) e2
    simpa [← Nat.xor_assoc] using this
  rw [show 8 * g.length = from_ + (8 * g.length - from_) by omega, halfs_add, halfs_pow] at e3
  exact halfs_ne _ _ hb h0 e3

/-- One bit turned. -/
theorem num_turn (g : List Nat) (hg : ∀ x ∈ g, x < 256) (j b : Nat) (hj : j < g.length) (hb : b < 8) : num (g.set j (g.getD j 0 ^^^ 2 ^ b)) = num g ^^^ 2 ^ (8 * j + b) := by
  induction g generalizing j with
  | nil => simp at hj
  | cons x g ih =>
    have hx := hg x (by simp)
    cases j with
    | zero =>
      have h2 : 2 ^ b < 256 := by have := Nat.pow_lt_pow_right (a := 2) (by omega) hb; omega
      have h3 : x ^^^ 2 ^ b < 256 := Nat.xor_lt_two_pow (n := 8) (by omega) (by omega)
      have e1 : num (x :: g) = (2 ^ 8 * num g) ^^^ x := by rw [← add_xor 8 (num g) x (by omega)]; simp only [num]; omega
      have e2 : num ((x ^^^ 2 ^ b) :: g) = (2 ^ 8 * num g) ^^^ (x ^^^ 2 ^ b) := by rw [← add_xor 8 (num g) _ (by omega)]; simp only [num]; omega
      simp only [List.set_cons_zero, List.getD_cons_zero]
      rw [e1, e2, Nat.xor_assoc]
      simp
    | succ j =>
      have h1 := ih (fun y hy => hg y (by simp [hy])) j (by simpa using hj)
      simp only [List.set_cons_succ, List.getD_cons_succ]
      have e1 : ∀ l, num (x :: l) = (2 ^ 8 * num l) ^^^ x := by intro l; rw [← add_xor 8 (num l) x (by omega)]; simp only [num]; omega
      rw [e1, e1, h1, Nat.xor_assoc, Nat.xor_comm x, ← Nat.xor_assoc]
      congr 1
      have h2 := Nat.shiftLeft_xor_distrib (a := num g) (b := 2 ^ (8 * j + b)) (i := 8)
      simp only [Nat.shiftLeft_eq] at h2
      rw [Nat.mul_comm, h2, Nat.mul_comm, ← Nat.pow_add]
      congr 2
      omega

/-- The bits of a number, one more. -/
theorem mod_succ_xor (n i : Nat) : n % 2 ^ (i + 1) = (n % 2 ^ i) ^^^ (if n / 2 ^ i % 2 = 1 then 2 ^ i else 0) := by
  have h : n % 2 ^ (i + 1) = n % 2 ^ i + 2 ^ i * (n / 2 ^ i % 2) := by
    rw [Nat.pow_succ, Nat.mod_mul]
  rw [h, Nat.add_comm, add_xor i _ _ (Nat.mod_lt _ (Nat.two_pow_pos i)), Nat.xor_comm]
  congr 1
  have h1 : n / 2 ^ i % 2 = 0 ∨ n / 2 ^ i % 2 = 1 := by omega
  rcases h1 with h1 | h1 <;> simp [h1]

end Go.Proofs.Ytbfefjlilmoigaa.Crc
