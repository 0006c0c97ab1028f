/- Walks over code: lists got. -/
import Derived.Test.YtbfefjlilmoigaaT12
namespace Go.Proofs.Ytbfefjlilmoigaa
open Go.RowKit
set_option linter.unusedVariables false

/-- A list's items, one by one: they, the place behind them, the error's number. -/
def getItems (bs : List UInt8) : Nat → Int → List Int × Int × Nat
  | 0, at_ => ([], at_, 0)
  | c + 1, at_ =>
    if (Code.getN bs at_).2.2 ≠ 0 then ([], 0, (Code.getN bs at_).2.2)
    else if 2147483648 ≤ (Code.getN bs at_).1 then ([], 0, 3)
    else if (getItems bs c (Code.getN bs at_).2.1).2.2 = 0 then (((Code.getN bs at_).1 : Int) :: (getItems bs c (Code.getN bs at_).2.1).1, (getItems bs c (Code.getN bs at_).2.1).2.1, 0)
    else ([], 0, (getItems bs c (Code.getN bs at_).2.1).2.2)

def getList (bs : List UInt8) (at_ most : Int) : List Int × Int × Nat :=
  if (Code.getN bs at_).2.2 ≠ 0 then ([], 0, (Code.getN bs at_).2.2)
  else if most < ((Code.getN bs at_).1 : Int) then ([], 0, 5)
  else getItems bs (Code.getN bs at_).1 (Code.getN bs at_).2.1

/-- What is got behind some that were got. -/
def joinL (acc : List Int) (r : List Int × Int × Nat) : List Int × Int × Nat := if r.2.2 = 0 then (acc ++ r.1, r.2.1, 0) else ([], 0, r.2.2)

theorem getN_bound (bs : List UInt8) (at_ : Int) (x : Nat) (nx : Int) (h : Code.getN bs at_ = (x, nx, 0)) : 0 ≤ at_ ∧ at_ < nx ∧ nx ≤ bs.length ∧ x < 4294967296 := by
  unfold Code.getN at h
  split at h
  · simp at h
  · rename_i h0
    have h0' : 0 ≤ at_ ∧ at_ ≤ bs.length := by omega
    generalize hg : Code.getF 5 0 0 (bs.drop at_.toNat) = r at h
    obtain ⟨v, k, e⟩ := r
    cases e with
    | zero =>
      simp only [Prod.mk.injEq, and_true] at h
      obtain ⟨rfl, rfl⟩ := h
      obtain ⟨n, _, h32, hk, hlen, _⟩ := Code.putF_getF 4 0 0 _ _ _ hg
      rw [List.length_drop] at hlen
      exact ⟨h0'.1, by omega, by omega, h32⟩
    | succ e => simp at h

theorem getItems_err (bs : List UInt8) (c : Nat) (at_ : Int) (x : Nat) (nx : Int) (e : Nat) (h : Code.getN bs at_ = (x, nx, e)) (he : e ≠ 0) : getItems bs (c + 1) at_ = ([], 0, e) := by
  unfold getItems
  rw [h]
  simp [he]
theorem getItems_big (bs : List UInt8) (c : Nat) (at_ : Int) (x : Nat) (nx : Int) (h : Code.getN bs at_ = (x, nx, 0)) (hx : 2147483648 ≤ x) : getItems bs (c + 1) at_ = ([], 0, 3) := by
  unfold getItems
  rw [h]
  simp [hx]
theorem getItems_more (bs : List UInt8) (c : Nat) (at_ : Int) (x : Nat) (nx : Int) (acc : List Int) (h : Code.getN bs at_ = (x, nx, 0)) (hx : ¬ 2147483648 ≤ x) : joinL acc (getItems bs (c + 1) at_) = joinL (acc ++ [(x : Int)]) (getItems bs c nx) := by
  rw [getItems, h]
  simp only [ne_eq, not_true_eq_false, if_false, hx, joinL]
  by_cases h0 : (getItems bs c nx).2.2 = 0
  · simp [h0]
  · simp [h0]

def GotPost (w : World) (r : List Int × Int × Nat) (e : Ending) (w' : World) : Prop :=
  ∃ v, e = .returned (.tuple #[v, .int .i64 r.2.1, .int .i64 (r.2.2 : Int)]) ∧ OwnI w' w.heap.size v r.1 ∧ Below w.heap.size w w'

def GetState (wr : World) (base : Nat) (v : Value) (bs : List UInt8) (rest : Nat) (at_ : Int) (tot : List Int × Int × Nat) : Prop :=
  ∃ acc, OwnI wr base v acc ∧ 0 ≤ at_ ∧ at_ ≤ bs.length ∧ (acc.length : Int) ≤ at_ ∧ joinL acc (getItems bs rest at_) = tot

theorem getState_start (wr : World) (base : Nat) (bs : List UInt8) (N : Nat) (nx : Int) (h0 : 0 ≤ nx) (h1 : nx ≤ bs.length) : GetState wr base (.slice none 0 0) bs (N - 0) nx (getItems bs N nx) :=
  ⟨[], OwnI.nil_ _ _, h0, h1, by simpa using h0, by
    rw [Nat.sub_zero]
    unfold joinL
    split
    · rename_i h; rw [← h]; simp
    · rename_i h
      induction N generalizing nx with
      | zero => simp [getItems] at h
      | succ N _ =>
        unfold getItems at h ⊢
        repeat' split
        all_goals simp_all⟩

theorem GetState.fin {wr : World} {base : Nat} {v : Value} {bs : List UInt8} {rest : Nat} {at_ : Int} {tot : List Int × Int × Nat} {e : Nat} (h : GetState wr base v bs rest at_ tot) (hg : getItems bs rest at_ = ([], 0, e)) (he : e ≠ 0) : tot = ([], 0, e) := by
  obtain ⟨acc, _, _, _, _, hj⟩ := h
  rw [← hj, hg]
  simp [joinL, he]

theorem GetState.step {wr : World} {base : Nat} {v : Value} {bs : List UInt8} {rest : Nat} {at_ : Int} {tot : List Int × Int × Nat} (h : GetState wr base v bs rest at_ tot) (r : Nat) (hr : rest = r + 1) {x : Nat} {nx : Int}
    (hN : Code.getN bs at_ = (x, nx, 0)) (hx : ¬ 2147483648 ≤ x) (h1 : at_ < nx) (h2 : nx ≤ bs.length) :
    ∃ acc : List Int, OwnI wr base v acc ∧ (acc.length : Int) ≤ bs.length ∧ ∀ v' w', OwnI w' base v' (acc ++ [(x : Int)]) → GetState w' base v' bs r nx tot := by
  obtain ⟨acc, h3, h4, h5, h6, hj⟩ := h
  subst hr
  refine ⟨acc, h3, by omega, fun v' w' ho => ⟨acc ++ [(x : Int)], ho, by omega, h2, by simp; omega, ?_⟩⟩
  rw [← hj, getItems_more bs r at_ x nx acc hN hx]

theorem got_is (bs : List UInt8) (at_ : Int) (x : Nat) (nx : Int) (e : Nat) (h : Code.getN bs at_ = (x, nx, e)) : got (Code.getN bs at_) = .tuple #[.int .u32 (x : Int), .int .i64 nx, .int .i64 (e : Int)] := by rw [h]; rfl

set_option maxRecDepth 100000 in
theorem rgetl_any (A : Option Addr) (n c : Nat) (bs : List UInt8) (at_ most : Int) (w : World) (hb : Bytes w A n bs) (hn : n ≤ 1000000) (hlo : -9223372036854775808 ≤ at_) (hhi : at_ ≤ 9223372036854775807) :
    Calls Try.prog 38 #[.slice A n c, .int .i64 at_, .int .i64 most] w (GotPost w (getList bs at_ most)) := by
  have H := hide hb
  have hl := hide hb.len
  clear hb
  have C := rget_any A n c bs at_ w H.out (by omega) hlo hhi
  have hlo' := hide hlo
  have hhi' := hide hhi
  clear hlo hhi
  obtain ⟨⟨N, nx, e⟩, hN⟩ : ∃ r, Code.getN bs at_ = r := ⟨_, rfl⟩
  rw [got_is bs at_ N nx e hN] at C
  have CC := hide C
  clear C
  by_cases he : e = 0
  · subst he
    obtain ⟨b1, b2, b3, b4⟩ := getN_bound bs at_ N nx hN
    have b3' : nx ≤ 1000000 := by rw [hl.out] at b3; omega
    by_cases hm : most < (N : Int)
    · have hf : Hid (getList bs at_ most = ([], 0, 5)) := by show _ = _; unfold getList; rw [hN]; simp [hm]
      have hN' := hide hN
      clear hN
      go_enter Try.func38, Try.ntmps38
      go_wp2_with fail
      refine CC.out.mono ?_
      rintro e w1 ⟨rfl, rfl⟩
      go_wp2_with fail
      go_ret3
      refine ⟨.slice none 0 0, ?_, ?_, Below.refl _ _⟩
      · rw [hf.out]; rfl
      · rw [hf.out]; exact OwnI.nil_ _ _
    · have hf : Hid (getList bs at_ most = getItems bs N nx) := by show _ = _; unfold getList; rw [hN]; simp [hm]
      have t2 : decide (most < (N : Int)) = false := by simpa using hm
      have hN' := hide hN
      clear hN hm
      go_enter Try.func38, Try.ntmps38
      go_wp2_with fail
      refine CC.out.mono ?_
      rintro e w1 ⟨rfl, rfl⟩
      go_wp2_with fail
      go_loopw [1, 11, 12] (fun p v i wr => ∃ (k : Nat) (at1 : Int), k ≤ N ∧ p = .int .i64 at1 ∧ i = .int .i64 k ∧ 0 ≤ at1 ∧ at1 ≤ 1000000 ∧ Hid (GetState wr w.heap.size v bs (N - k) at1 (getItems bs N nx)) ∧ Hid (Below w.heap.size w wr)) (fun _ _ i _ => N - (intOf i).toNat)
      case atStart => exact ⟨0, nx, by omega, rfl, rfl, by omega, b3', getState_start _ _ bs N nx (by omega) b3, Below.refl _ _⟩
      case round =>
        obtain ⟨k, at1, hk, rfl, rfl, ha1, ha2, hst, hbel⟩ := hrel
        by_cases hlt : k < N
        · have C := rget_any A n c bs at1 wr (H.out.below hbel.out) (by omega) (by omega) (by omega)
          obtain ⟨⟨x, nx1, e1⟩, hN1⟩ : ∃ r, Code.getN bs at1 = r := ⟨_, rfl⟩
          rw [got_is bs at1 x nx1 e1 hN1] at C
          have CC1 := hide C
          clear C
          by_cases he1 : e1 = 0
          · subst he1
            obtain ⟨g1, g2, g3, g4⟩ := getN_bound bs at1 x nx1 hN1
            have g3' : nx1 ≤ 1000000 := by rw [hl.out] at g3; omega
            by_cases hx : 2147483648 ≤ x
            · have hf1 : Hid (getItems bs N nx = ([], 0, 3)) := hst.out.fin (by rw [show N - k = (N - k - 1) + 1 by omega]; exact getItems_big bs _ at1 x nx1 hN1 hx) (by decide)
              have t3 : decide ((2147483648 : Int) ≤ (x : Int)) = true := by simp; omega
              have hN1' := hide hN1
              clear hN1 hx g4
              go_wp2_with fail
              refine CC1.out.mono ?_
              rintro e w1 ⟨rfl, rfl⟩
              go_wp2_with fail
              go_ret3
              refine ⟨.slice none 0 0, ?_, ?_, hbel.out⟩
              · rw [hf.out, hf1.out]; rfl
              · rw [hf.out, hf1.out]; exact OwnI.nil_ _ _
            · have t3 : decide ((2147483648 : Int) ≤ (x : Int)) = false := by simp; omega
              obtain ⟨acc, hown, hal, hnext⟩ := hst.out.step (N - k - 1) (by omega) hN1 hx g2 g3
              have hal' : acc.length ≤ 1000000 := by have := hl.out; omega
              have hN1' := hide hN1
              have hnx := hide hnext
              have ho := hide hown
              clear hN1 hx hnext hown
              go_wp2_with fail
              refine CC1.out.mono ?_
              rintro e w1 ⟨rfl, rfl⟩
              go_wp2_with (at_builtin; refine appI w.heap.size (ho.out.below (below_alloc _ _)) (int_one wr x) (by omega) (by have := hbel.out.size; simp; omega) rfl _ _ rfl rfl _ rfl ?_)
              intro v2 w2 hown2 hbel2
              have hst2 : Hid (GetState w2 w.heap.size v2 bs (N - (k + 1)) nx1 (getItems bs N nx)) := by rw [show N - (k + 1) = N - k - 1 by omega]; exact hnx.out v2 w2 hown2
              have hbb : Hid (Below w.heap.size w w2) := (hbel.out.trans ((below_alloc _ _).mono hbel.out.size)).trans hbel2
              clear hown2 hbel2
              go_wp2
              go_roundw
              case rel => exact ⟨k + 1, nx1, by omega, rfl, by go_num, by omega, g3', hst2, hbb⟩
              case measure => simp [intOf]; omega
          · have hf1 : Hid (getItems bs N nx = ([], 0, e1)) := hst.out.fin (by rw [show N - k = (N - k - 1) + 1 by omega]; exact getItems_err bs _ at1 x nx1 e1 hN1 he1) he1
            have t3 : ((e1 : Int) != 0) = true := by simpa using he1
            have hN1' := hide hN1
            have he1' := hide he1
            clear hN1 he1
            go_wp2_with fail
            refine CC1.out.mono ?_
            rintro e w1 ⟨rfl, rfl⟩
            go_wp2_with fail
            go_ret3
            refine ⟨.slice none 0 0, ?_, ?_, hbel.out⟩
            · rw [hf.out, hf1.out]; rfl
            · rw [hf.out, hf1.out]; exact OwnI.nil_ _ _
        · have hkN : N - k = 0 := by omega
          obtain ⟨acc, hown, _, _, _, hj⟩ := hst.out
          rw [hkN] at hj
          have hj' : Hid (getItems bs N nx = (acc, at1, 0)) := by show _ = _; rw [← hj]; simp [joinL, getItems]
          have ho := hide hown
          clear hj hown
          go_wp2
          go_ret3
          refine ⟨u11, ?_, ?_, hbel.out⟩
          · rw [hf.out, hj'.out]; rfl
          · rw [hf.out, hj'.out]; exact ho.out
  · have hf : Hid (getList bs at_ most = ([], 0, e)) := by show _ = _; unfold getList; rw [hN]; simp [he]
    have t1 : ((e : Int) != 0) = true := by simpa using he
    have hN' := hide hN
    have he' := hide he
    clear hN he
    go_enter Try.func38, Try.ntmps38
    go_wp2_with fail
    refine CC.out.mono ?_
    rintro e w1 ⟨rfl, rfl⟩
    go_wp2_with fail
    go_ret3
    refine ⟨.slice none 0 0, ?_, ?_, Below.refl _ _⟩
    · rw [hf.out]; rfl
    · rw [hf.out]; exact OwnI.nil_ _ _

theorem getN_err0 (bs : List UInt8) (at_ : Int) (x : Nat) (nx : Int) (e : Nat) (h : Code.getN bs at_ = (x, nx, e)) (he : e ≠ 0) : x = 0 ∧ nx = 0 := by
  unfold Code.getN at h
  split at h
  · simp only [Prod.mk.injEq] at h; omega
  · generalize Code.getF 5 0 0 (bs.drop at_.toNat) = r at h
    obtain ⟨v, k, e'⟩ := r
    cases e' with
    | zero => simp only [Prod.mk.injEq] at h; omega
    | succ e' => simp only [Prod.mk.injEq] at h; omega

def GetState2 (wr : World) (base : Nat) (v : Value) (bs : List UInt8) (rest : Nat) (at_ : Int) (er : Nat) (tot : List Int × Int × Nat) : Prop :=
  (er = 0 ∧ GetState wr base v bs rest at_ tot) ∨ (er ≠ 0 ∧ tot = ([], 0, er))

set_option maxRecDepth 100000 in
set_option maxHeartbeats 400000 in
theorem getl_any (A : Option Addr) (n c : Nat) (bs : List UInt8) (at_ most : Int) (w : World) (hb : Bytes w A n bs) (hn : n ≤ 1000000) (hnc : n ≤ c) (hcm : c ≤ 9223372036854775807) (hlo : -9223372036854775808 ≤ at_) (hhi : at_ ≤ 9223372036854775807) :
    Calls Try.prog 37 #[.slice A n c, .int .i64 at_, .int .i64 most] w (GotPost w (getList bs at_ most)) := by
  have H := hide hb
  have hl := hide hb.len
  clear hb
  have C := get_any A n c bs at_ w H.out (by omega) hnc hcm hlo hhi
  have hlo' := hide hlo
  have hhi' := hide hhi
  have hnc' := hide hnc
  have hcm' := hide hcm
  clear hlo hhi hnc hcm
  obtain ⟨⟨N, nx, e⟩, hN⟩ : ∃ r, Code.getN bs at_ = r := ⟨_, rfl⟩
  rw [got_is bs at_ N nx e hN] at C
  have CC := hide C
  clear C
  by_cases he : e = 0
  · subst he
    obtain ⟨b1, b2, b3, b4⟩ := getN_bound bs at_ N nx hN
    have b3' : nx ≤ 1000000 := by rw [hl.out] at b3; omega
    by_cases hm : most < (N : Int)
    · have hf : Hid (getList bs at_ most = ([], 0, 5)) := by show _ = _; unfold getList; rw [hN]; simp [hm]
      have t2 : decide (most < (N : Int)) = true := by simpa using hm
      have hN' := hide hN
      clear hN hm
      go_enter Try.func37, Try.ntmps37
      go_wp2_with fail
      refine CC.out.mono ?_
      rintro e w1 ⟨rfl, rfl⟩
      go_wp2_with fail
      go_loop [10] (fun v => v = .int .i64 5) (fun _ => 0)
      case atStart => rfl
      case round =>
        obtain rfl := hrel
        go_wp2_with fail
        go_ret3
        refine ⟨.slice none 0 0, ?_, ?_, Below.refl _ _⟩
        · rw [hf.out]; rfl
        · rw [hf.out]; exact OwnI.nil_ _ _
    · have hf : Hid (getList bs at_ most = getItems bs N nx) := by show _ = _; unfold getList; rw [hN]; simp [hm]
      have t2 : decide (most < (N : Int)) = false := by simpa using hm
      have hN' := hide hN
      clear hN hm
      go_enter Try.func37, Try.ntmps37
      go_wp2_with fail
      refine CC.out.mono ?_
      rintro e w1 ⟨rfl, rfl⟩
      go_wp2_with fail
      go_loopw [1, 10, 11, 12] (fun p q v i wr => ∃ (k er : Nat) (at1 : Int), k ≤ N ∧ p = .int .i64 at1 ∧ q = .int .i64 er ∧ i = .int .i64 k ∧ 0 ≤ at1 ∧ at1 ≤ 1000000 ∧ Hid (GetState2 wr w.heap.size v bs (N - k) at1 er (getItems bs N nx)) ∧ Hid (Below w.heap.size w wr)) (fun _ _ _ i _ => N - (intOf i).toNat)
      case atStart => exact ⟨0, 0, nx, by omega, rfl, rfl, rfl, by omega, b3', .inl ⟨rfl, getState_start _ _ bs N nx (by omega) b3⟩, Below.refl _ _⟩
      case round =>
        obtain ⟨k, er, at1, hk, rfl, rfl, rfl, ha1, ha2, hst2, hbel⟩ := hrel
        by_cases her : er = 0
        · subst her
          have hst : Hid (GetState wr w.heap.size u11 bs (N - k) at1 (getItems bs N nx)) := by
            rcases hst2.out with h | h
            · exact h.2
            · exact absurd rfl h.1
          clear hst2
          by_cases hlt : k < N
          · have C := get_any A n c bs at1 wr (H.out.below hbel.out) (by omega) hnc'.out hcm'.out (by omega) (by omega)
            obtain ⟨⟨x, nx1, e1⟩, hN1⟩ : ∃ r, Code.getN bs at1 = r := ⟨_, rfl⟩
            rw [got_is bs at1 x nx1 e1 hN1] at C
            have CC1 := hide C
            clear C
            obtain ⟨acc, hown, _, hal0, hal, _⟩ := hst.out
            have hal' : acc.length ≤ 1000000 := by omega
            have ho := hide hown
            clear hown hal0 hal
            by_cases he1 : e1 = 0
            · subst he1
              obtain ⟨g1, g2, g3, g4⟩ := getN_bound bs at1 x nx1 hN1
              have g3' : nx1 ≤ 1000000 := by rw [hl.out] at g3; omega
              by_cases hx : 2147483648 ≤ x
              · have hf1 : Hid (getItems bs N nx = ([], 0, 3)) := hst.out.fin (by rw [show N - k = (N - k - 1) + 1 by omega]; exact getItems_big bs _ at1 x nx1 hN1 hx) (by decide)
                have t3 : decide ((2147483648 : Int) ≤ (x : Int)) = true := by simp; omega
                have hN1' := hide hN1
                clear hN1 hx hst
                go_wp2_with fail
                refine CC1.out.mono ?_
                rintro e w1 ⟨rfl, rfl⟩
                go_wp2_with (at_builtin; refine appI w.heap.size (ho.out.below (below_alloc _ _)) (int_one wr x) (by omega) (by have := hbel.out.size; simp; omega) rfl _ _ rfl rfl _ rfl ?_)
                intro v2 w2 hown2 hbel2
                have hbb : Hid (Below w.heap.size w w2) := (hbel.out.trans ((below_alloc _ _).mono hbel.out.size)).trans hbel2
                clear hown2 hbel2
                go_wp2
                go_roundw
                case rel => exact ⟨k + 1, 3, nx1, by omega, rfl, rfl, by go_num, by omega, g3', .inr ⟨by decide, hf1.out⟩, hbb⟩
                case measure => simp [intOf]; omega
              · have t3 : decide ((2147483648 : Int) ≤ (x : Int)) = false := by simp; omega
                obtain ⟨acc, hown, hal, hnext⟩ := hst.out.step (N - k - 1) (by omega) hN1 hx g2 g3
                have hal' : acc.length ≤ 1000000 := by have := hl.out; omega
                have hN1' := hide hN1
                have hnx := hide hnext
                have ho := hide hown
                clear hN1 hx hnext hown hst
                go_wp2_with fail
                refine CC1.out.mono ?_
                rintro e w1 ⟨rfl, rfl⟩
                go_wp2_with (at_builtin; refine appI w.heap.size (ho.out.below (below_alloc _ _)) (int_one wr x) (by omega) (by have := hbel.out.size; simp; omega) rfl _ _ rfl rfl _ rfl ?_)
                intro v2 w2 hown2 hbel2
                have hst2 : Hid (GetState w2 w.heap.size v2 bs (N - (k + 1)) nx1 (getItems bs N nx)) := by rw [show N - (k + 1) = N - k - 1 by omega]; exact hnx.out v2 w2 hown2
                have hbb : Hid (Below w.heap.size w w2) := (hbel.out.trans ((below_alloc _ _).mono hbel.out.size)).trans hbel2
                clear hown2 hbel2
                go_wp2
                go_roundw
                case rel => exact ⟨k + 1, 0, nx1, by omega, rfl, rfl, by go_num, by omega, g3', .inl ⟨rfl, hst2.out⟩, hbb⟩
                case measure => simp [intOf]; omega
            · have hf1 : Hid (getItems bs N nx = ([], 0, e1)) := hst.out.fin (by rw [show N - k = (N - k - 1) + 1 by omega]; exact getItems_err bs _ at1 x nx1 e1 hN1 he1) he1
              have t3 : ((e1 : Int) == 0) = false := by simpa using he1
              obtain ⟨rfl, rfl⟩ := getN_err0 bs at1 x nx1 e1 hN1 he1
              have hN1' := hide hN1
              have he1' := hide he1
              clear hN1 he1 hst
              go_wp2_with fail
              refine CC1.out.mono ?_
              rintro e w1 ⟨rfl, rfl⟩
              go_wp2_with (at_builtin; refine appI w.heap.size (ho.out.below (below_alloc _ _)) (int_one wr 0) (by omega) (by have := hbel.out.size; simp; omega) rfl _ _ rfl rfl _ rfl ?_)
              intro v2 w2 hown2 hbel2
              have hbb : Hid (Below w.heap.size w w2) := (hbel.out.trans ((below_alloc _ _).mono hbel.out.size)).trans hbel2
              clear hown2 hbel2
              go_wp2
              go_roundw
              case rel => exact ⟨k + 1, e1, 0, by omega, rfl, rfl, by go_num, by omega, by omega, .inr ⟨he1'.out, hf1.out⟩, hbb⟩
              case measure => simp [intOf]; omega
          · have hkN : N - k = 0 := by omega
            obtain ⟨acc, hown, _, _, _, hj⟩ := hst.out
            rw [hkN] at hj
            have hj' : Hid (getItems bs N nx = (acc, at1, 0)) := by show _ = _; rw [← hj]; simp [joinL, getItems]
            have ho := hide hown
            clear hj hown
            go_wp2
            go_ret3
            refine ⟨u11, ?_, ?_, hbel.out⟩
            · rw [hf.out, hj'.out]; rfl
            · rw [hf.out, hj'.out]; exact ho.out
        · have hf1 : Hid (getItems bs N nx = ([], 0, er)) := by
            rcases hst2.out with h | h
            · exact absurd h.1 her
            · exact h.2
          have t3 : ((er : Int) == 0) = false := by simpa using her
          have t4 : ((er : Int) != 0) = true := by simpa using her
          have her' := hide her
          clear her hst2
          go_wp2
          go_ret3
          refine ⟨.slice none 0 0, ?_, ?_, hbel.out⟩
          · rw [hf.out, hf1.out]; rfl
          · rw [hf.out, hf1.out]; exact OwnI.nil_ _ _
  · have hf : Hid (getList bs at_ most = ([], 0, e)) := by show _ = _; unfold getList; rw [hN]; simp [he]
    have t1 : ((e : Int) != 0) = true := by simpa using he
    have t0 : ((e : Int) == 0) = false := by simpa using he
    have hN' := hide hN
    have he' := hide he
    clear hN he
    go_enter Try.func37, Try.ntmps37
    go_wp2_with fail
    refine CC.out.mono ?_
    rintro e1 w1 ⟨rfl, rfl⟩
    go_wp2_with fail
    go_loop [10] (fun v => v = .int .i64 e) (fun _ => 0)
    case atStart => rfl
    case round =>
      obtain rfl := hrel
      go_wp2_with fail
      go_ret3
      refine ⟨.slice none 0 0, ?_, ?_, Below.refl _ _⟩
      · rw [hf.out]; rfl
      · rw [hf.out]; exact OwnI.nil_ _ _
end Go.Proofs.Ytbfefjlilmoigaa
