/- Walks over corpus: all cases read. -/
import Derived.Test.YtbfefjlilmoigaaD2c
namespace Go.Proofs.Ytbfefjlilmoigaa
open Go.RowKit
set_option linter.unusedVariables false

theorem OwnC.slice {w : World} {base : Nat} {v : Value} {l : List Cas} (h : OwnC w base v l) : ∃ A c, v = .slice A l.length c := by
  obtain ⟨us, ⟨_, h⟩, _⟩ := h
  rcases h with ⟨h1, h2⟩ | ⟨g, cap, cur, h1, _⟩
  · exact ⟨none, 0, by rw [h1, h2]⟩
  · exact ⟨_, _, h1⟩

set_option maxHeartbeats 1000000 in
set_option maxRecDepth 100000 in
theorem all_any (g : Nat) (A : Option Addr) (n c : Nat) (bs : List UInt8) (w : World) (hr : Rd w g A n c 0) (hb : Bytes w A n bs) (hA : ∀ a, A = some a → a.block ≠ g)
    (hn : n ≤ 1000000) (hnc : n ≤ c) (hcm : c ≤ 9223372036854775807) :
    Calls Try.prog 51 #[.pointer (some ⟨g, 0, none⟩)] w (AllPost w g (allR bs)) := by
  have H := hide hb
  have hl := hide hb.len
  have HR := hide hr
  have HA := hide hA
  clear hb hr hA
  have hp2 : g < w.heap.size := HR.out.lt
  have hne : w.heap.size ≠ g := by omega
  have k1 := hide (Keep.of_below (g := g) (below_alloc w (.cells #[.int .u32 0, .slice none 0 0] 37)))
  have r1 : Hid (Row (w.alloc (.cells #[.int .u32 0, .slice none 0 0] 37)) w.heap.size 37 #[.int .u32 0, .slice none 0 0]) := Row.new _ _ _
  have R1 := hide (HR.out.alloc (.cells #[.int .u32 0, .slice none 0 0] 37))
  have c0 := (R1.out.cell 0).trans (show _ = some (.slice A n c) from rfl)
  by_cases h8 : 8 ≤ n
  · have h8' : decide (8 ≤ (n : Int)) = true := by simp; omega
    have hcv := (k1.out.bytes H.out HA.out |>.take 4 (by omega)).convert c
    have h4c : 4 ≤ c := by omega
    go_enter Try.func51, Try.ntmps51
    go_wp2_with fail
    cases hmg : (bs.take 4 == [71, 82, 68, 49]) with
    | false =>
      have hres : Hid (allR bs = .error 3) := by show _ = _; unfold allR; rw [if_neg (by intro hh; rw [hh.2] at hmg; exact absurd hmg (by decide))]
      refine (ask_no _ _).mono ?_
      rintro e w2 ⟨rfl, rfl⟩
      go_wp2_with fail
      rw [hres.out]
      exact ⟨rfl, k1.out, rfl⟩
    | true =>
      have hall : Hid (allR bs = match numR bs 8 okM 5 with
        | .error z => .error z
        | .ok (k, a1) => match casesR bs k a1 with
          | .error z => .error z
          | .ok (l, to) => if to = bs.length then .ok (le4 (bs.drop 4), l) else .error 3) := by
        show _ = _
        unfold allR
        rw [if_pos ⟨by have := hl.out; omega, by unfold magicB; simpa using hmg⟩]
        rfl
      have hdig := hide (digT_all bs (by have := hl.out; omega))
      refine (ask_yes _ _).mono ?_
      rintro e w2 ⟨rfl, rfl⟩
      clear hmg hcv c0
      go_wp2_with fail
      generalize hp : w.heap.size = p2 at *
      generalize w.alloc (.cells #[.int .u32 0, .slice none 0 0] 37) = w1 at *
      go_loopw [3] (fun i wr => ∃ i' t : Nat, i' + t = 7 ∧ t ≤ 4 ∧ i = .int .i64 i' ∧ Hid (Row wr p2 37 #[.int .u32 (digT bs t : Nat), .slice none 0 0]) ∧ Hid (Rd wr g A n c 0) ∧ Hid (Keep g w wr)) (fun i _ => (intOf i).toNat)
      case atStart => exact ⟨7, 0, by omega, by omega, rfl, r1.out, R1.out, k1.out⟩
      case round =>
        obtain ⟨i, t, hit, ht, rfl, hrw, hRd, hkp⟩ := hrel
        by_cases hi4 : 4 ≤ i
        · have hi4' : decide (4 ≤ (i : Int)) = true := by simp; omega
          obtain ⟨b, o, y, hAe, hy, hcy⟩ := (hkp.out.bytes H.out HA.out).at_ (show i < n by omega)
          subst hAe
          have c0 := (hRd.out.cell 0).trans (show _ = some (.slice (some ⟨b, o, none⟩) n c) from rfl)
          have d0 := (hrw.out.cell 0).trans (show _ = some (.int .u32 (digT bs t : Nat)) from rfl)
          have f0 := hrw.out.frozen 0
          have hdt : digT bs t < 16777216 := Nat.lt_of_lt_of_le (digT_lt bs t) (Nat.pow_le_pow_right (by omega) (show t ≤ 3 by omega))
          have hin : i < n := by omega
          have hy8 : y.toNat < 256 := y.toNat_lt
          have hnext : Hid (digT bs (t + 1) = digT bs t * 256 + y.toNat) := by
            show _ = _
            rw [digT, show 7 - t = i by omega, List.getD_eq_getElem?_getD, hy]
            rfl
          clear hy
          go_wp2_with fail
          generalize digT bs t = D at *
          go_region
          have hV : bits .or .u32 ((D : Int) * 256) (y.toNat : Int) = ((digT bs (t + 1) : Nat) : Int) := by
            have h1 := u32_or_nat (D * 256) y.toNat (by omega) (by omega)
            rw [show ((D * 256 : Nat) : Int) = (D : Int) * 256 by omega] at h1
            rw [h1, hnext.out]
            have h2 := Nat.shiftLeft_add_eq_or_of_lt (show y.toNat < 2 ^ 8 by omega) D
            rw [Nat.shiftLeft_eq] at h2
            rw [← h2]
          rw [hV]
          have hrw2 : Hid (Row (wr.setCell ⟨p2, 0, none⟩ (.int .u32 (digT bs (t + 1) : Nat))).drew p2 37 #[.int .u32 (digT bs (t + 1) : Nat), .slice none 0 0]) := hrw.out.put 0 _
          have hRd2 : Hid (Rd (wr.setCell ⟨p2, 0, none⟩ (.int .u32 (digT bs (t + 1) : Nat))).drew g (some ⟨b, o, none⟩) n c 0) := Row.far hRd.out (p := ⟨p2, 0, none⟩) (by show g ≠ p2; omega) _
          have hkp2 : Hid (Keep g w (wr.setCell ⟨p2, 0, none⟩ (.int .u32 (digT bs (t + 1) : Nat))).drew) := by
            have := hkp.out.put (p := p2) 0 (.int .u32 (digT bs (t + 1) : Nat)) (.inr (by omega))
            exact ⟨this.os, this.tape, this.output, this.size, this.block⟩
          clear hV hrw hRd hkp hcy c0 f0 d0 hnext
          generalize (wr.setCell ⟨p2, 0, none⟩ (.int .u32 (digT bs (t + 1) : Nat))).drew = w2 at *
          go_wp2_with fail
          exact ⟨⟨i - 1, t + 1, by omega, by omega, by go_num, hrw2, hRd2, hkp2⟩, by simp [intOf]; omega⟩
        · have hi3 : i = 3 := by omega
          have ht4 : t = 4 := by omega
          subst hi3 ht4
          have hi4' : decide ((4 : Int) ≤ ((3 : Nat) : Int)) = false := rfl
          rw [hdig.out] at hrw
          have g1 := (hRd.out.cell 1).trans (show _ = some (.int .i64 0) from rfl)
          have fg := hRd.out.frozen 1
          have hk8 := hide (hkp.out.put (p := g) 1 (.int .i64 8) (.inl rfl))
          have hr8 := hide (Row.far hrw.out (p := ⟨g, 1, none⟩) hne (.int .i64 8))
          have hR8 : Rd (wr.setCell ⟨g, 1, none⟩ (.int .i64 8)) g A n c ((8 : Nat) : Int) := Row.put hRd.out 1 _
          have C1 := number_most g A n c bs 8 5 (wr.setCell ⟨g, 1, none⟩ (.int .i64 8)) hR8 (hk8.out.bytes H.out HA.out) HA.out (by omega) hnc hcm h8
          clear hi4 hrw hRd hkp
          go_wp2_with fail
          clear g1 fg hR8
          generalize wr.setCell ⟨g, 1, none⟩ (.int .i64 8) = w3 at *
          cases hx : numR bs ((8 : Nat) : Int) okM 5 with
          | error z =>
            rw [hx] at C1
            have hres : Hid (allR bs = .error z) := by
              show _ = _
              rw [hall.out, show (8 : Int) = ((8 : Nat) : Int) from rfl, hx]
            refine C1.mono ?_
            rintro e w4 ⟨hk4, he⟩
            dsimp only at he
            unfold wrongP at he
            subst he
            clear C1
            go_wp2_with fail
            rw [hres.out]
            exact ⟨rfl, hk8.out.trans hk4, rfl⟩
          | ok r =>
            obtain ⟨kk, a1⟩ := r
            rw [hx] at C1
            have hall2 : Hid (allR bs = match casesR bs kk a1 with
              | .error z => .error z
              | .ok (l, to) => if to = bs.length then .ok (le4 (bs.drop 4), l) else .error 3) := by
              show _ = _
              rw [hall.out, show (8 : Int) = ((8 : Nat) : Int) from rfl, hx]
            obtain ⟨hg1, hok1⟩ := numR_ok hx
            obtain ⟨b1, b2, b3, b4⟩ := getN_bound _ _ _ _ hg1
            obtain ⟨a1, rfl⟩ := Int.eq_ofNat_of_zero_le (show (0 : Int) ≤ a1 by omega)
            have hln := hl.out
            have ha1 : a1 ≤ n := by omega
            have hkk : kk ≤ 2000 := by unfold okM at hok1; simp at hok1; omega
            clear b1 b2 b3 b4 hg1 hx hln hok1 hall
            refine C1.mono ?_
            rintro e w4 ⟨hk4, rfl, hR4⟩
            clear C1
            have hk4' := hide (hk8.out.trans hk4)
            have hr4 := hide (hk4.row hr8.out hne)
            have hR4' := hide hR4
            clear hk4 hR4
            generalize le4 (bs.drop 4) = D at *
            go_wp2_with fail
            clear hdig k1 R1 r1 hr8 hk8 hi4' hit ht
            go_loopw [44] (fun i wr => ∃ (j : Nat) (acc : List Cas) (v : Value) (at_ : Nat), j ≤ kk ∧ i = .int .i64 j ∧ acc.length = j ∧ at_ ≤ n ∧ Hid (Row wr p2 37 #[.int .u32 (D : Int), v]) ∧ Hid (Rd wr g A n c (at_ : Int)) ∧ Hid (OwnC wr p2 v acc) ∧ Hid (Keep g w wr) ∧ Hid (joinC acc (casesR bs (kk - j) at_) = casesR bs kk a1)) (fun i _ => kk - (intOf i).toNat)
            case atStart =>
              refine ⟨0, [], _, a1, by omega, rfl, rfl, ha1, hr4.out, hR4'.out, OwnC.nil _ _, hk4'.out, ?_⟩
              show joinC [] (casesR bs kk a1) = casesR bs kk a1
              unfold joinC
              cases casesR bs kk a1 <;> rfl
            case round =>
              obtain ⟨j, acc, v, at_, hj, rfl, hacc, hat, hrw, hRd, hoc, hkp, hjn⟩ := hrel
              by_cases hlt : j < kk
              · have hlt' : decide ((j : Int) < (kk : Int)) = true := by simp; omega
                have d1 := (hrw.out.cell 1).trans (show _ = some v from rfl)
                have HBr := hide (hkp.out.bytes H.out HA.out)
                have hkd : Hid (Keep g w wr.drew) := ⟨hkp.out.os, hkp.out.tape, hkp.out.output, hkp.out.size, hkp.out.block⟩
                cases hx : oneR bs (at_ : Int) with
                | error z =>
                  have hres : Hid (allR bs = .error z) := by
                    show _ = _
                    have h1 := hjn.out
                    rw [show kk - j = (kk - j - 1) + 1 by omega, casesR, hx] at h1
                    rw [hall2.out, ← h1]
                    rfl
                  have hxx := hide hx
                  clear hx
                  go_wp2_with fail
                  have E1 : ∀ W, Ext wr W → W.cell? ⟨p2, 1, none⟩ = some v := fun W hW => (hW.cell hrw.out.lt).trans d1
                  clear d1
                  refine wp_region_seq [(0, false), (1, false), (2, false), (3, true), (4, true), (5, true), (6, false), (7, true)]
                    (by kernel_rfl) (by kernel_rfl) (by kernel_rfl) rfl (by kernel_rfl) (fun _ _ d _ _ h => by cases d <;> exact h) ?_
                  simp only [List.map_cons, List.map_nil, List.getElem?_cons_succ, List.getElem?_cons_zero, Option.getD_some]
                  iterate 3 (refine wpSeq_take rfl rfl (fun W hW => (by have e1 := E1 W hW; go_simp; with_reducible rfl)) ?_; simp only [List.setIfInBounds_toArray, List.set_cons_zero, List.set_cons_succ])
                  refine wpSeq_alone rfl (fun K hK => ?_)
                  clear hK
                  go_wp2_with fail
                  refine (one_any g A n c bs at_ _ (show Row wr.drew g 73 _ from hRd.out) (show Bytes wr.drew A n bs from HBr.out) HA.out hn hnc hcm hat).mono ?_
                  rw [hxx.out]
                  rintro e w5 ⟨hk5, he⟩
                  dsimp only at he
                  unfold wrongP at he
                  subst he
                  go_wp2_with fail
                  rw [hres.out]
                  exact ⟨rfl, hkd.out.trans hk5, rfl⟩
                | ok r =>
                  obtain ⟨x, nx⟩ := r
                  have hxx := hide hx
                  have hvg := hide (hoc.out.ne hRd.out (by decide))
                  have hvp := hide (hoc.out.ne hrw.out (by decide))
                  obtain ⟨us, ho, hus⟩ := hoc.out
                  have ho' := hide ho
                  have hus' := hide hus
                  obtain ⟨i0, hi, hz0, hz1, hz2⟩ := info_parts info66
                  have hinfo := hide hi
                  have hzz0 := hide hz0
                  have hzz1 := hide hz1
                  have hzz2 := hide hz2
                  have hjl : acc.length ≤ 2000 := by omega
                  clear hx ho hus hi hz0 hz1 hz2
                  go_wp2_with fail
                  go_region_law (first
                    | (rw [if_pos (by rfl)]; go_wp2_with fail; refine (one_any g A n c bs at_ _ (show Row wr.drew g 73 _ from hRd.out) (show Bytes wr.drew A n bs from HBr.out) HA.out hn hnc hcm hat).mono ?_; rw [hxx.out]; rintro e w5 ⟨hk5, ⟨A5, c5, rfl, hw5⟩, hR5⟩; have d5 : w5.cell? ⟨p2, 1, none⟩ = some v := ((hk5.row (show Row wr.drew p2 37 _ from hrw.out) hne).cell 1).trans rfl; have d6 : (w5.alloc (.cells #[.int .i64 x.kind, .int .i64 x.note, .slice A5 x.word.length c5] 66)).cell? ⟨p2, 1, none⟩ = some v := (((hk5.row (show Row wr.drew p2 37 _ from hrw.out) hne).alloc _).cell 1).trans rfl)
                    | (refine step_append_lies _ (by rfl) _ _ 35 (by rfl) p2 66 i0 _ 3 40 Try.underlying35 hinfo.out hzz0.out hzz1.out hzz2.out rfl (by omega) v acc.length us (by rfl) (own_below (World.ownsRow.kept (show wr.drew.ownsRow p2 66 3 v acc.length us from ho'.out) hk5 (.inr hvg.out)) (below_alloc _ _)) ⟨w5.heap.size, 0, none⟩ 1 1 [.int .i64 x.kind, .int .i64 x.note, .slice A5 x.word.length c5] (by rfl) (by rfl) (fun j u hu => by rw [Addr.add_lit', Nat.zero_add, cell_of_row _ w5.heap.size j _ 66 (0, 0) (heap_alloc_new w5 _)]; simpa using hu) (by simp [Value.oneCell']) (by omega) (by unfold maxLen; omega) (by omega) (by have h1 := hrw.out.lt; have h2 := hk5.size; simp at h2 ⊢; omega) _ rfl ?_; intro g7 cap7 w7 hown7 hgrow hat7 hlt7; have hr7 : Row w7 p2 37 #[.int .u32 (D : Int), v] := (hgrow.block p2 (by have h1 := hrw.out.lt; have h2 := hk5.size; simp at h2 ⊢; omega) (fun hh => hvp.out hh.symm)).trans ((hk5.row (show Row wr.drew p2 37 _ from hrw.out) hne).alloc _); have d7 : w7.cell? ⟨p2, 1, none⟩ = some v := (hr7.cell 1).trans rfl; have f7 : w7.frozen? ⟨p2, 1, none⟩ = false := hr7.frozen 1))
                  all_goals
                    obtain ⟨k, rfl, hk1, hk2⟩ := oneR_bound hxx.out
                    have hkn : k ≤ n := by have := hl.out; omega
                    have hg5 : g < w5.heap.size := hR5.lt
                    have hR7 : Row w7 g 73 #[.slice A n c, .int .i64 (k : Int)] := (hgrow.block g (by simp; omega) (fun hh => hvg.out hh.symm)).trans (Row.alloc hR5 _)
                    have hkw : Hid (Keep g w w7) := by
                      have hk := hkd.out.trans hk5
                      have hs := (below_alloc w5 (.cells #[.int .i64 x.kind, .int .i64 x.note, .slice A5 x.word.length c5] 66)).size
                      refine ⟨hgrow.os.trans hk.os, hgrow.tape.trans hk.tape, hgrow.output.trans hk.output, Nat.le_trans hk.size (Nat.le_trans hs hgrow.size), fun i hi hne2 => ?_⟩
                      have h1 := hk.size
                      have hib : some i ≠ v.ownBlock := fun hh => by have := (OwnC.block hoc.out hh.symm).1; omega
                      exact ((hgrow.block i (by omega) hib).trans ((below_alloc w5 _).block i (by omega))).trans (hk.block i hi hne2)
                    have hoc5 : OwnC w5 p2 v acc := OwnC.far (show OwnC wr.drew p2 v acc from ⟨us, ho'.out, hus'.out⟩) hk5 (show Row wr.drew g 73 _ from hRd.out) (by decide) (by decide)
                    have hoc7 : OwnC w7 p2 (.slice (some ⟨g7, 0, none⟩) (acc.length + 1) cap7) (acc ++ [x]) := by
                      have hus6 : ∀ j y, acc[j]? = some y → us[j * 3]? = some (.int .i64 y.kind) ∧ us[j * 3 + 1]? = some (.int .i64 y.note) ∧ ∃ A c, us[j * 3 + 2]? = some (.slice A y.word.length c) ∧ WordT (w5.alloc (.cells #[.int .i64 x.kind, .int .i64 x.note, .slice A5 x.word.length c5] 66)) A c y.word := by
                        intro j y hy
                        obtain ⟨a1, a2, A', c', a3, a4⟩ := hus'.out j y hy
                        have hRg : Row wr.drew g 73 _ := hRd.out
                        refine ⟨a1, a2, A', c', a3, WordT.below (WordT.keep (show WordT wr.drew A' c' y.word from a4) hk5 fun g' hg' cs fz hh => ?_) (below_alloc _ _)⟩
                        obtain rfl := Option.some.inj hg'
                        unfold Row at hRg
                        rw [hRg] at hh
                        injection hh with hh
                        injection hh with _ h2 _
                        exact absurd h2 (by decide)
                      refine OwnC.snoc hus6 ho'.out.1 (hw5.below (below_alloc _ _)) hown7 hgrow fun g' hg' cs fz hh => ?_
                      obtain ⟨_, cs', h66⟩ := hoc5.block hg'
                      have h1 := (below_alloc w5 (.cells #[.int .i64 x.kind, .int .i64 x.note, .slice A5 x.word.length c5] 66)).block g' (Array.getElem?_eq_some_iff.1 h66).1
                      rw [h1, h66] at hh
                      injection hh with hh
                      injection hh with _ h2 _
                      exact absurd h2 (by decide)
                    have hacc2 : acc.length = j := hacc
                    rw [hacc2] at hoc7
                    have hr8 := hide (hr7.put 1 (.slice (some ⟨g7, 0, none⟩) (j + 1) cap7))
                    have hR8 := hide (Row.far hR7 (p := ⟨p2, 1, none⟩) (by show g ≠ p2; omega) (.slice (some ⟨g7, 0, none⟩) (j + 1) cap7))
                    have hk8 := hide (hkw.out.put (p := p2) 1 (.slice (some ⟨g7, 0, none⟩) (j + 1) cap7) (.inr (by omega)))
                    have ho8 := hide (hoc7.put hr7 (by decide) (by decide) 1 (.slice (some ⟨g7, 0, none⟩) (j + 1) cap7))
                    have hj8 : Hid (joinC (acc ++ [x]) (casesR bs (kk - (j + 1)) (k : Int)) = casesR bs kk a1) := by
                      show _ = _
                      have h1 := hjn.out
                      rw [show kk - j = (kk - (j + 1)) + 1 by omega, casesR, hxx.out] at h1
                      dsimp only at h1
                      rw [← h1]
                      cases casesR bs (kk - (j + 1)) (k : Int) with
                      | error z => rfl
                      | ok r => obtain ⟨l, to⟩ := r; simp [joinC]
                    clear hr7 d7 f7 hR7 hkw hoc7 hoc5 hown7 hgrow hk5 hw5 hR5 d5 d6
                    generalize w7.setCell ⟨p2, 1, none⟩ (.slice (some ⟨g7, 0, none⟩) (j + 1) cap7) = w8 at *
                    go_wp2_with fail
                    exact ⟨⟨j + 1, acc ++ [x], _, k, by omega, by go_num, by simp [hacc], hkn, hr8.out, hR8.out, ho8.out, hk8.out, hj8.out⟩, by simp [intOf]; omega⟩
              · have hlt' : decide ((j : Int) < (kk : Int)) = false := by simp; omega
                have hjk : j = kk := by omega
                have hall3 : Hid (allR bs = if (at_ : Int) = bs.length then .ok (D, acc) else .error 3) := by
                  show _ = _
                  have h1 := hjn.out
                  rw [hjk, Nat.sub_self, casesR] at h1
                  rw [hall2.out, ← h1]
                  simp [joinC]
                have hln := hl.out
                have E0 : ∀ W, Ext wr W → W.cell? ⟨g, 0, none⟩ = some (.slice A n c) := fun W hW => (hW.cell hRd.out.lt).trans ((hRd.out.cell 0).trans rfl)
                have E1 : ∀ W, Ext wr W → W.cell? ⟨g, 1, none⟩ = some (.int .i64 (at_ : Int)) := fun W hW => (hW.cell hRd.out.lt).trans ((hRd.out.cell 1).trans rfl)
                have hkd : Hid (Keep g w wr.drew) := ⟨hkp.out.os, hkp.out.tape, hkp.out.output, hkp.out.size, hkp.out.block⟩
                go_wp2_with fail
                refine wp_region_seq [(0, false), (1, false), (2, false), (3, false), (4, false), (5, false), (6, false), (7, false), (8, false), (9, false), (10, true)]
                  (by kernel_rfl) (by kernel_rfl) (by kernel_rfl) rfl (by kernel_rfl) (fun _ _ d _ _ h => by cases d <;> exact h) ?_
                simp only [List.map_cons, List.map_nil, List.getElem?_cons_succ, List.getElem?_cons_zero, Option.getD_some]
                iterate 10 (refine wpSeq_take rfl rfl (fun W hW => (by have e0 := E0 W hW; have e1 := E1 W hW; go_simp; with_reducible rfl)) ?_; simp only [List.setIfInBounds_toArray, List.set_cons_zero, List.set_cons_succ])
                refine wpSeq_alone rfl (fun K hK => ?_)
                go_wp2_with fail
                by_cases he : at_ = n
                · have he' : ((at_ : Int) == (n : Int)) = true := by simp [he]
                  have hres : Hid (allR bs = .ok (D, acc)) := by
                    show _ = _
                    rw [hall3.out, if_pos (by omega)]
                  rw [he']
                  refine (ask_yes _ _).mono ?_
                  rintro e w5 ⟨rfl, rfl⟩
                  obtain ⟨Av, cv, rfl⟩ := hoc.out.slice
                  clear he hlt hjn hall2 hall3 hln hjk hj hacc hat
                  go_wp2_with fail
                  refine hK _ _ wr.drew (Ext.drew wr) (Ext.refl _) ?_
                  clear hK K
                  refine wpSeq_nil ?_
                  have d0 : wr.drew.cell? ⟨p2, 0, none⟩ = some (.int .u32 (D : Int)) := (hrw.out.cell 0).trans rfl
                  have d1 : wr.drew.cell? ⟨p2, 1, none⟩ = some (.slice Av acc.length cv) := (hrw.out.cell 1).trans rfl
                  have f0 : wr.drew.frozen? ⟨p2, 0, none⟩ = false := hrw.out.frozen 0
                  have hr6 : Hid (Row (wr.setCell ⟨p2, 0, none⟩ (.int .u32 (D : Int))).drew p2 37 #[.int .u32 (D : Int), .slice Av acc.length cv]) := hrw.out.put 0 _
                  have f1 : (wr.setCell ⟨p2, 0, none⟩ (.int .u32 (D : Int))).drew.frozen? ⟨p2, 1, none⟩ = false := hr6.out.frozen 1
                  have d6 : (wr.setCell ⟨p2, 0, none⟩ (.int .u32 (D : Int))).drew.cell? ⟨p2, 1, none⟩ = some (.slice Av acc.length cv) := (hr6.out.cell 1).trans rfl
                  have hk6 : Hid (Keep g w (wr.setCell ⟨p2, 0, none⟩ (.int .u32 (D : Int))).drew) := by
                    have := hkp.out.put (p := p2) 0 (.int .u32 (D : Int)) (.inr (by omega))
                    exact ⟨this.os, this.tape, this.output, this.size, this.block⟩
                  have ho6 : Hid (OwnC (wr.setCell ⟨p2, 0, none⟩ (.int .u32 (D : Int))).drew p2 (.slice Av acc.length cv) acc) :=
                    hoc.out.put (show Row wr p2 37 _ from hrw.out) (by decide) (by decide) 0 (.int .u32 (D : Int))
                  clear E0 E1
                  go_wp2_with fail
                  have hr7 : Hid (Row ((wr.setCell ⟨p2, 0, none⟩ (.int .u32 (D : Int))).setCell ⟨p2, 1, none⟩ (.slice Av acc.length cv)).drew p2 37 #[.int .u32 (D : Int), .slice Av acc.length cv]) := hr6.out.put 1 _
                  have hk7 : Hid (Keep g w ((wr.setCell ⟨p2, 0, none⟩ (.int .u32 (D : Int))).setCell ⟨p2, 1, none⟩ (.slice Av acc.length cv)).drew) := by
                    have := hk6.out.put (p := p2) 1 (.slice Av acc.length cv) (.inr (by omega))
                    exact ⟨this.os, this.tape, this.output, this.size, this.block⟩
                  have ho7 : Hid (OwnC ((wr.setCell ⟨p2, 0, none⟩ (.int .u32 (D : Int))).setCell ⟨p2, 1, none⟩ (.slice Av acc.length cv)).drew p2 (.slice Av acc.length cv) acc) := ho6.out.put hr6.out (by decide) (by decide) 1 (.slice Av acc.length cv)
                  clear d0 d1 f0 f1 d6 hr6 hk6 ho6 hrw hRd hoc hkp hkd
                  generalize ((wr.setCell ⟨p2, 0, none⟩ (.int .u32 (D : Int))).setCell ⟨p2, 1, none⟩ (.slice Av acc.length cv)).drew = w7 at *
                  have d0 := (hr7.out.cell 0).trans (show _ = some (.int .u32 (D : Int)) from rfl)
                  have d1 := (hr7.out.cell 1).trans (show _ = some (.slice Av acc.length cv) from rfl)
                  refine bodyPost_ret (v := .agg #[.int .u32 (D : Int), .slice Av acc.length cv]) (by simp [results, Try.results51, go_sem, d0, d1]) rfl ?_
                  rw [hres.out]
                  exact ⟨hk7.out, _, rfl, by rw [hp]; exact ho7.out⟩
                · have he' : ((at_ : Int) == (n : Int)) = false := by simp; omega
                  have hres : Hid (allR bs = .error 3) := by
                    show _ = _
                    rw [hall3.out, if_neg (by omega)]
                  rw [he']
                  refine (ask_no _ _).mono ?_
                  rintro e w5 ⟨rfl, rfl⟩
                  clear he hlt hjn hall2 hall3 hln hjk hj hacc hat
                  go_wp2_with fail
                  rw [hres.out]
                  exact ⟨rfl, hkd.out, rfl⟩
  · have h8' : decide (8 ≤ (n : Int)) = false := by simp; omega
    have hres : Hid (allR bs = .error 3) := by show _ = _; unfold allR; rw [if_neg (by have := hl.out; omega)]
    go_enter Try.func51, Try.ntmps51
    go_wp2_with fail
    refine (ask_no _ _).mono ?_
    rintro e w2 ⟨rfl, rfl⟩
    go_wp2_with fail
    rw [hres.out]
    exact ⟨rfl, k1.out, rfl⟩
end Go.Proofs.Ytbfefjlilmoigaa
