/- The walk of CrcTells. -/
import Derived.Test.YtbfefjlilmoigaaT8
namespace Go.Proofs.Ytbfefjlilmoigaa
open Go.RowKit
set_option linter.unusedVariables false

theorem bit_of (q k : Nat) (hq : q < 4294967296) : Go.bits BinOp.and IntKind.u32 ((q : Int) / 2 ^ k) 1 = ((q / 2 ^ k % 2 : Nat) : Int) := by
  have h : q / 2 ^ k < 4294967296 := Nat.lt_of_le_of_lt (Nat.div_le_self _ _) hq
  have := and_one (q / 2 ^ k) h
  rw [← this]
  simp

theorem turn_byte (x : UInt8) (b : Nat) (hb : b < 8) : Go.bits BinOp.xor IntKind.u8 (x.toNat : Int) (2 ^ b % 256) = ((UInt8.ofNat (x.toNat ^^^ 2 ^ b)).toNat : Int) := by
  have h2 : 2 ^ b < 256 := by have := Nat.pow_lt_pow_right (a := 2) (by omega) hb; omega
  have h3 : x.toNat ^^^ 2 ^ b < 256 := Nat.xor_lt_two_pow (n := 8) x.toNat_lt (by omega)
  have h := u8_xor_nat x.toNat (2 ^ b) x.toNat_lt h2
  have hc : ((2 : Int) ^ b) = ((2 ^ b : Nat) : Int) := by simp
  rw [hc]
  clear hc
  generalize 2 ^ b = z at *
  rw [Int.emod_eq_of_lt (by omega) (by omega)]
  rw [h, UInt8.toNat_ofNat', Nat.mod_eq_of_lt h3]

theorem nums_turn (fl : List UInt8) (j b : Nat) (x : UInt8) (hx : fl[j]? = some x) (hb : b < 8) : Crc.num (nums (fl.set j (UInt8.ofNat (x.toNat ^^^ 2 ^ b)))) = Crc.num (nums fl) ^^^ 2 ^ (8 * j + b) := by
  have h2 : 2 ^ b < 256 := by have := Nat.pow_lt_pow_right (a := 2) (by omega) hb; omega
  have h3 : x.toNat ^^^ 2 ^ b < 256 := Nat.xor_lt_two_pow (n := 8) x.toNat_lt (by omega)
  have hj : j < fl.length := (List.getElem?_eq_some_iff.1 hx).1
  have h4 := Crc.num_turn (nums fl) (nums_lt fl) j b (by rw [nums_length]; exact hj) hb
  have h5 : (nums fl).getD j 0 = x.toNat := by simp [nums, List.getD, hx]
  rw [h5] at h4
  rw [← h4]
  congr 1
  simp only [nums, List.map_set]
  rw [UInt8.toNat_ofNat', Nat.mod_eq_of_lt h3]

theorem turn_more (z fr q k j b : Nat) (hjb : 8 * j + b = fr + k) (hbit : q / 2 ^ k % 2 = 1) : (z ^^^ (2 ^ fr * (q % 2 ^ k))) ^^^ 2 ^ (8 * j + b) = z ^^^ (2 ^ fr * (q % 2 ^ (k + 1))) := by
  rw [Crc.mod_succ_xor, if_pos hbit, hjb, Nat.xor_assoc]
  congr 1
  have h2 := Nat.shiftLeft_xor_distrib (a := q % 2 ^ k) (b := 2 ^ k) (i := fr)
  simp only [Nat.shiftLeft_eq] at h2
  rw [Nat.mul_comm _ (q % 2 ^ k ^^^ 2 ^ k), h2, Nat.mul_comm (2 ^ k), ← Nat.pow_add, Nat.mul_comm]

theorem open_some (f b : List UInt8) (h : openB f = some b) : f = frameB b := by
  unfold openB at h
  split at h
  · cases h
  · split at h
    · rename_i h2
      injection h with h
      subst h
      exact (eq_of_beq h2).symm
    · cases h

theorem open_turned (bs fl : List UInt8) (fr q : Nat) (h0 : q ≠ 0) (hq : q < 4294967296) (hl : fl.length = bs.length + 4) (hfr : fr + 32 ≤ 8 * (bs.length + 4))
    (hn : Crc.num (nums fl) = Crc.num (nums (frameB bs)) ^^^ (2 ^ fr * q)) : openB fl = none := by
  cases h : openB fl with
  | none => rfl
  | some m =>
    exfalso
    have hf := open_some fl m h
    exact Crc.tells (nums (frameB bs)) (nums bs) (nums m) (nums fl) (nums_lt _) (nums_lt _) (nums_frame _) (by rw [hf]; exact nums_frame _) (by rw [nums_length, nums_length, hl, frame_len]) q fr h0 hq
      (by rw [nums_length, frame_len]; exact hfr) hn

theorem law_tells (A : Option Addr) (n c : Nat) (bs : List UInt8) (at_ q : Nat) (w : World) (hb : Bytes w A n bs) (hat : at_ < 65536) (hbits : q < 4294967296) :
    Calls Try.prog 6 #[.slice A n c, .int .u16 at_, .int .u32 q] w fun e w' => e = .returned (.bool true) ∧ Below w.heap.size w w' := by
  have H := hide hb
  have hl := hide hb.len
  clear hb
  by_cases h2000 : 2000 < n
  · go_enter Try.func6, Try.ntmps6
    go_wp2_with fail
    refine (alive4 _).mono ?_
    rintro e w1 ⟨rfl, hbel1⟩
    go_wp2_with fail
    go_ret
    exact ⟨rfl, hbel1⟩
  by_cases h0 : q = 0
  · subst h0
    go_enter Try.func6, Try.ntmps6
    go_wp2_with fail
    refine (alive4 _).mono ?_
    rintro e w1 ⟨rfl, hbel1⟩
    go_wp2_with fail
    go_ret
    exact ⟨rfl, hbel1⟩
  have hz : ((q : Int) == 0) = false := by simp; omega
  have hgt : decide (2000 < (n : Int)) = false := by simp; omega
  have h0' := hide h0; clear h0
  obtain ⟨fr, efr, hfr⟩ : ∃ fr : Nat, (at_ : Int) % (8 * ((n : Int) + 4) - 31) = (fr : Int) ∧ fr + 32 ≤ 8 * (n + 4) := ⟨at_ % (8 * (n + 4) - 31), by rw [show 8 * ((n : Int) + 4) - 31 = ((8 * (n + 4) - 31 : Nat) : Int) by omega]; rfl, by have := Nat.mod_lt at_ (show 0 < 8 * (n + 4) - 31 by omega); omega⟩
  go_enter Try.func6, Try.ntmps6
  go_wp2_with fail
  refine (alive4 _).mono ?_
  rintro e w1 ⟨rfl, hbel1⟩
  have hb1 : Hid (Below w.heap.size w w1) := hbel1
  go_wp2_with fail
  refine (frame_any A n c bs _ (H.out.below (hb1.out.trans ((below_alloc _ _).mono hb1.out.size))) (by omega)).mono ?_
  rintro e w2 ⟨v2, rfl, hown2, hbel2⟩
  obtain ⟨A2, c2, hv2, hB2, _, _⟩ := hown2.form
  have hlen2 : (frameB bs).length = n + 4 := by rw [frame_len, hl.out]
  rw [hlen2] at hv2 hB2
  subst hv2
  have hb2 : Hid (Below w1.heap.size w1 w2) := below_both (below_alloc _ _) hbel2 (by simp)
  have hs2 := hb2.out.size
  go_wp2_with (at_builtin; refine appB w1.heap.size ((Own.empty w1).below hbel2) hB2 (by first | omega | (simp; omega)) (by omega) rfl _ _ rfl rfl _ rfl ?_)
  intro v3 w3 hown3 hbel3
  have hb3 : Hid (Below w.heap.size w w3) := (below_both hb1.out hb2.out hb1.out.size).trans (hbel3.mono hb1.out.size)
  obtain ⟨A3, c3, hv3, hB3, hc3, _⟩ := hown3.form
  rw [hlen2] at hv3 hB3 hc3
  subst hv3
  clear hbel1 hbel2 hbel3 hown2 hB2
  obtain ⟨g, o3, rfl, _⟩ := hB3.2 (by omega)
  have ho3 : o3 = 0 := by
    rcases hown3.2 with ⟨hh, _⟩ | ⟨g', cap, cur, hh, _⟩
    · cases hh
    · injection hh with hh; injection hh with hh; injection hh
  subst ho3
  have h3 := hide hown3
  have hw3 := hide hlen2
  clear hown3 hlen2 hB3
  go_wp2_with fail
  rw [efr]
  clear efr
  go_loopw [9] (fun i wr => ∃ k : Nat, k ≤ 32 ∧ i = .int .i64 k ∧ Hid (∃ fl : List UInt8, fl.length = n + 4 ∧ Own wr w1.heap.size (.slice (some ⟨g, 0, none⟩) (n + 4) c3) fl ∧ Crc.num (nums fl) = Crc.num (nums (frameB bs)) ^^^ (2 ^ fr * (q % 2 ^ k))) ∧ Hid (Below w.heap.size w wr)) (fun i _ => 32 - (intOf i).toNat)
  case atStart => exact ⟨0, by omega, rfl, ⟨frameB bs, hw3.out, h3.out, by simp [Nat.mod_one]⟩, hb3⟩
  case round =>
    obtain ⟨k, hk, rfl, hrow, hbel⟩ := hrel
    by_cases hlt : k < 32
    · by_cases hbit : q / 2 ^ k % 2 = 1
      · have t1 : (Go.bits BinOp.and IntKind.u32 ((q : Int) / 2 ^ k) 1 == 1) = true := by rw [bit_of q k hbits, hbit]; rfl
        obtain ⟨fl, hf1, hf2, hf3⟩ := hrow.out
        have hj : (fr + k) / 8 < fl.length := by omega
        have hx : fl[(fr + k) / 8]? = some fl[(fr + k) / 8] := List.getElem?_eq_getElem hj
        obtain ⟨x, hxe⟩ : ∃ x, x = fl[(fr + k) / 8] := ⟨_, rfl⟩
        rw [← hxe] at hx
        have hf2' : wr.ownsRow w1.heap.size 5 1 (.slice (some ⟨g, 0, none⟩) (n + 4) c3) (n + 4) (u8s fl) := by unfold Own at hf2; rwa [hf1] at hf2
        obtain ⟨hc, hfz, hg⟩ := Own.cell hf2' hx
        have H2 := hide hf2'
        have H3 := hide hf3
        have H4 := hide hx
        have H5 := hide hf1
        have x256 := x.toNat_lt
        have hrow' : Hid (∃ fl : List UInt8, fl.length = n + 4 ∧ Own (wr.setCell ⟨g, (fr + k) / 8, none⟩ (.int .u8 ((UInt8.ofNat (x.toNat ^^^ 2 ^ ((fr + k) % 8))).toNat : Int))) w1.heap.size (.slice (some ⟨g, 0, none⟩) (n + 4) c3) fl ∧ Crc.num (nums fl) = Crc.num (nums (frameB bs)) ^^^ (2 ^ fr * (q % 2 ^ (k + 1)))) := by
          refine ⟨fl.set ((fr + k) / 8) (UInt8.ofNat (x.toNat ^^^ 2 ^ ((fr + k) % 8))), by rw [List.length_set]; exact hf1, ?_, ?_⟩
          · unfold Own
            rw [List.length_set, hf1]
            exact Own.put hf2' _ _
          · rw [nums_turn fl _ _ x hx (by omega), hf3, turn_more _ fr q k _ _ (by omega) hbit]
        have hbel' : Hid (Below w.heap.size w (wr.setCell ⟨g, (fr + k) / 8, none⟩ (.int .u8 ((UInt8.ofNat (x.toNat ^^^ 2 ^ ((fr + k) % 8))).toNat : Int)))) :=
          Below.setCell hbel.out (by show w.heap.size ≤ g; have := hb1.out.size; omega) _
        have ey := turn_byte x ((fr + k) % 8) (by omega)
        obtain ⟨y, hy⟩ : ∃ y, y = UInt8.ofNat (x.toNat ^^^ 2 ^ ((fr + k) % 8)) := ⟨_, rfl⟩
        rw [← hy] at ey hrow' hbel'
        have x256 := x.toNat_lt
        have y256 := y.toNat_lt
        have Ey := hide ey
        clear hbit hf2 hf2' hf3 hx hxe hf1 hy ey hrow hbel
        go_wp2
        go_region
        rw [Ey.out]
        go_wp2
        go_roundw
        case rel => exact ⟨k + 1, by omega, by go_num, hrow', hbel'.out.drew⟩
        case measure => simp [intOf]; omega
      · have t1 : (Go.bits BinOp.and IntKind.u32 ((q : Int) / 2 ^ k) 1 == 1) = false := by rw [bit_of q k hbits, show q / 2 ^ k % 2 = 0 by omega]; rfl
        have hrow' : Hid (∃ fl : List UInt8, fl.length = n + 4 ∧ Own wr w1.heap.size (.slice (some ⟨g, 0, none⟩) (n + 4) c3) fl ∧ Crc.num (nums fl) = Crc.num (nums (frameB bs)) ^^^ (2 ^ fr * (q % 2 ^ (k + 1)))) := by
          obtain ⟨fl, h1, h2, h3⟩ := hrow.out
          exact ⟨fl, h1, h2, by rw [h3, Crc.mod_succ_xor, if_neg hbit]; simp⟩
        clear hbit
        go_wp2
        go_roundw
        case rel => exact ⟨k + 1, by omega, by go_num, hrow', hbel⟩
        case measure => simp [intOf]; omega
    · have : k = 32 := by omega
      subst this
      obtain ⟨fl, hf1, hf2, hf3⟩ := hrow.out
      have ho : openB fl = none := open_turned bs fl fr q h0'.out hbits (by rw [hf1, hl.out]) (by rw [hl.out]; exact hfr) (by rw [hf3, Nat.mod_eq_of_lt (show q < 2 ^ 32 by omega)])
      obtain ⟨A5, c5, hv5, hB5, _, _⟩ := hf2.form
      rw [hf1] at hv5 hB5
      injection hv5 with e1 _ e2
      subst e1 e2
      have C := open_any (some ⟨g, 0, none⟩) (n + 4) c3 fl wr hB5 (by omega) hc3
      unfold OpenPost at C
      rw [ho] at C
      have CC := hide C
      clear hf1 hf2 hf3 ho hB5 C hrow
      go_wp2_with fail
      refine CC.out.mono ?_
      rintro e w6 ⟨v6, rfl, hown6, hbel6⟩
      obtain ⟨A6, c6, hv6, _, _, _⟩ := hown6.form
      subst hv6
      go_wp2
      go_ret
      exact ⟨rfl, below_both hbel.out hbel6 hbel.out.size⟩
end Go.Proofs.Ytbfefjlilmoigaa
