/- Walks over corpus: ask, number. -/
import Derived.Test.YtbfefjlilmoigaaC3
import Derived.WalkLawsBesides
import Derived.Test.YtbfefjlilmoigaaT13
import Derived.Test.YtbfefjlilmoigaaSeq
namespace Go.Proofs.Ytbfefjlilmoigaa
open Go.RowKit
set_option linter.unusedVariables false

/-- What a reading that ends carries. -/
def wrongP (e : Int) : Ending := .panicked [{ v := .iface 68 (.agg #[.int .i64 e]), recovered := false }]

theorem ask_yes (e : Int) (w : World) : Calls Try.prog 50 #[.bool true, .int .i64 e] w fun x w' => x = .returned (.tuple #[]) ∧ w = w' := by
  go_enter Try.func50, Try.ntmps50
  go_wp2_with fail
  refine bodyPost_end (results_none rfl _ _ _) rfl ?_
  exact ⟨rfl, rfl⟩

theorem ask_no (e : Int) (w : World) : Calls Try.prog 50 #[.bool false, .int .i64 e] w fun x w' => x = .panicked [{ v := .iface 68 (.agg #[.int .i64 e]), recovered := false }] ∧ w = w' := by
  go_enter Try.func50, Try.ntmps50
  go_wp2_with fail
  exact ⟨rfl, rfl, rfl⟩

/-- Only block g has changed among those that there were. -/
def Keep (g : Nat) (w w' : World) : Prop := w.grownBy w' (some g)
def Rd (w : World) (g : Nat) (A : Option Addr) (n c : Nat) (at_ : Int) : Prop := Row w g 73 #[.slice A n c, .int .i64 at_]

def numR (bs : List UInt8) (at_ : Int) (p : Int → Bool) (why : Nat) : Except Nat (Nat × Int) :=
  if (Code.getN bs at_).2.2 ≠ 0 then .error (Code.getN bs at_).2.2 else if p ((Code.getN bs at_).1 : Int) then .ok ((Code.getN bs at_).1, (Code.getN bs at_).2.1) else .error why

def NumPost (w : World) (g : Nat) (A : Option Addr) (n c : Nat) (r : Except Nat (Nat × Int)) (e : Ending) (w' : World) : Prop :=
  Keep g w w' ∧ match r with
    | .error z => e = wrongP (z : Int)
    | .ok (x, nx) => e = .returned (.int .i64 (x : Int)) ∧ Rd w' g A n c nx

def okM (x : Int) : Bool := decide (x ≤ 2000)
theorem most_any (x : Int) (w : World) : Calls Try.prog 63 #[.int .i64 x] w fun e w' => e = .returned (.bool (okM x)) ∧ w = w' := by
  unfold okM
  go_enter Try.func63, Try.ntmps63
  go_wp2_with fail
  go_ret
  exact ⟨by simp, rfl⟩

set_option maxHeartbeats 1000000 in
set_option maxRecDepth 100000 in
theorem number_kind (g : Nat) (A : Option Addr) (n c : Nat) (bs : List UInt8) (at_ : Nat) (why : Nat) (w : World) (hr : Rd w g A n c (at_ : Int)) (hb : Bytes w A n bs) (hA : ∀ a, A = some a → a.block ≠ g)
    (hn : n ≤ 100000000) (hnc : n ≤ c) (hcm : c ≤ 9223372036854775807) (hat : at_ ≤ n) :
    Calls Try.prog 62 #[.pointer (some ⟨g, 0, none⟩), .func (.func 53) #[] #[], .int .i64 (why : Int)] w (NumPost w g A n c (numR bs at_ okK why)) := by
  have H := hide hb
  have hl := hide hb.len
  have HR := hide hr
  have c0 := (hr.cell 0).trans (show _ = some (.slice A n c) from rfl)
  have c1 := (hr.cell 1).trans (show _ = some (.int .i64 (at_ : Int)) from rfl)
  have hfz := hr.frozen 1
  clear hb hr
  have C1 := get_any A n c bs (at_ : Int) w.drew (H.out.below (Ext.drew w)) hn hnc hcm (by omega) (by omega)
  unfold got at C1
  generalize hg : Code.getN bs (at_ : Int) = r at C1
  obtain ⟨x, nx, er⟩ := r
  dsimp only at C1
  have hg' := hide hg
  clear hg
  have E0 : ∀ W, Ext w W → W.cell? ⟨g, 0, none⟩ = some (.slice A n c) := fun W hW => (hW.cell HR.out.lt).trans c0
  have E1 : ∀ W, Ext w W → W.cell? ⟨g, 1, none⟩ = some (.int .i64 (at_ : Int)) := fun W hW => (hW.cell HR.out.lt).trans c1
  go_enter Try.func62, Try.ntmps62
  go_wp2_with fail
  clear c0 c1 hfz
  refine wp_region_seq [(0, false), (1, false), (2, false), (3, false), (4, false), (5, false), (6, false), (7, false), (8, true), (9, false), (10, false), (11, false), (12, false), (13, false), (14, false), (15, false)]
    (by kernel_rfl) (by kernel_rfl) (by kernel_rfl) rfl (by kernel_rfl) (fun _ _ d _ _ h => by cases d <;> exact h) ?_
  simp only [List.map_cons, List.map_nil, List.getElem?_cons_succ, List.getElem?_cons_zero, Option.getD_some]
  iterate 8 (refine wpSeq_take rfl rfl (fun W hW => (by have e0 := E0 W hW; have e1 := E1 W hW; go_simp; with_reducible rfl)) ?_; simp only [List.setIfInBounds_toArray, List.set_cons_zero, List.set_cons_succ])
  refine wpSeq_alone rfl (fun K hK => ?_)
  go_wp2_with fail
  refine C1.mono ?_
  rintro e w1 ⟨rfl, rfl⟩
  refine hK _ _ w.drew (Ext.drew w) (Ext.refl _) ?_
  clear hK K C1
  iterate 7 (refine wpSeq_take rfl rfl (fun W hW => (by go_simp; with_reducible rfl)) ?_; simp only [List.setIfInBounds_toArray, List.set_cons_zero, List.set_cons_succ])
  refine wpSeq_nil ?_
  have hkd : Hid (Keep g w w.drew) := ⟨rfl, rfl, rfl, Nat.le_refl _, fun _ _ _ => rfl⟩
  by_cases he : er = 0
  · subst he
    have hbd := getN_bound bs at_ x nx hg'.out
    have hx32 : x < 4294967296 := hbd.2.2.2
    have hC := kind_any (x : Int) w.drew
    clear hbd
    cases hp : okK (x : Int) with
    | true =>
      rw [hp] at hC
      have hres : Hid (numR bs at_ okK why = .ok (x, nx)) := by show _ = _; unfold numR; rw [hg'.out]; simp [hp]
      have hfz : w.drew.frozen? ⟨g, 1, none⟩ = false := HR.out.frozen 1
      have c1 : w.drew.cell? ⟨g, 1, none⟩ = some (.int .i64 (at_ : Int)) := E1 _ (Ext.drew w)
      go_wp2_with fail
      refine (ask_yes _ _).mono ?_
      rintro e w2 ⟨rfl, rfl⟩
      go_wp2_with fail
      refine hC.mono ?_
      rintro e w2 ⟨rfl, rfl⟩
      go_wp2_with fail
      refine (ask_yes _ _).mono ?_
      rintro e w2 ⟨rfl, rfl⟩
      clear hC
      go_wp2_with fail
      go_ret
      rw [hres.out]
      refine ⟨⟨rfl, rfl, rfl, by simp, fun k hk hne => Below.heap_setCell w.drew ⟨g, 1, none⟩ _ k (fun h => hne (by rw [h]))⟩, rfl, ?_⟩
      exact (Row.put (w := w.drew) (HR.out : Row w.drew g 73 _) 1 (.int .i64 nx))
    | false =>
      rw [hp] at hC
      have hres : Hid (numR bs at_ okK why = .error why) := by show _ = _; unfold numR; rw [hg'.out]; simp [hp]
      go_wp2_with fail
      refine (ask_yes _ _).mono ?_
      rintro e w2 ⟨rfl, rfl⟩
      go_wp2_with fail
      refine hC.mono ?_
      rintro e w2 ⟨rfl, rfl⟩
      go_wp2_with fail
      refine (ask_no _ _).mono ?_
      rintro e w2 ⟨rfl, rfl⟩
      clear hC
      go_wp2_with fail
      rw [hres.out]
      exact ⟨rfl, hkd.out, rfl⟩
  · have hf : ((er : Int) == 0) = false := by simp; omega
    have hres : Hid (numR bs at_ okK why = .error er) := by show _ = _; unfold numR; rw [hg'.out]; simp [he]
    go_wp2_with fail
    refine (ask_no _ _).mono ?_
    rintro e w2 ⟨rfl, rfl⟩
    go_wp2_with fail
    rw [hres.out]
    exact ⟨rfl, hkd.out, rfl⟩

set_option maxHeartbeats 1000000 in
set_option maxRecDepth 100000 in
theorem number_small (g : Nat) (A : Option Addr) (n c : Nat) (bs : List UInt8) (at_ : Nat) (why : Nat) (w : World) (hr : Rd w g A n c (at_ : Int)) (hb : Bytes w A n bs) (hA : ∀ a, A = some a → a.block ≠ g)
    (hn : n ≤ 100000000) (hnc : n ≤ c) (hcm : c ≤ 9223372036854775807) (hat : at_ ≤ n) :
    Calls Try.prog 62 #[.pointer (some ⟨g, 0, none⟩), .func (.func 54) #[] #[], .int .i64 (why : Int)] w (NumPost w g A n c (numR bs at_ okI why)) := by
  have H := hide hb
  have hl := hide hb.len
  have HR := hide hr
  have c0 := (hr.cell 0).trans (show _ = some (.slice A n c) from rfl)
  have c1 := (hr.cell 1).trans (show _ = some (.int .i64 (at_ : Int)) from rfl)
  have hfz := hr.frozen 1
  clear hb hr
  have C1 := get_any A n c bs (at_ : Int) w.drew (H.out.below (Ext.drew w)) hn hnc hcm (by omega) (by omega)
  unfold got at C1
  generalize hg : Code.getN bs (at_ : Int) = r at C1
  obtain ⟨x, nx, er⟩ := r
  dsimp only at C1
  have hg' := hide hg
  clear hg
  have E0 : ∀ W, Ext w W → W.cell? ⟨g, 0, none⟩ = some (.slice A n c) := fun W hW => (hW.cell HR.out.lt).trans c0
  have E1 : ∀ W, Ext w W → W.cell? ⟨g, 1, none⟩ = some (.int .i64 (at_ : Int)) := fun W hW => (hW.cell HR.out.lt).trans c1
  go_enter Try.func62, Try.ntmps62
  go_wp2_with fail
  clear c0 c1 hfz
  refine wp_region_seq [(0, false), (1, false), (2, false), (3, false), (4, false), (5, false), (6, false), (7, false), (8, true), (9, false), (10, false), (11, false), (12, false), (13, false), (14, false), (15, false)]
    (by kernel_rfl) (by kernel_rfl) (by kernel_rfl) rfl (by kernel_rfl) (fun _ _ d _ _ h => by cases d <;> exact h) ?_
  simp only [List.map_cons, List.map_nil, List.getElem?_cons_succ, List.getElem?_cons_zero, Option.getD_some]
  iterate 8 (refine wpSeq_take rfl rfl (fun W hW => (by have e0 := E0 W hW; have e1 := E1 W hW; go_simp; with_reducible rfl)) ?_; simp only [List.setIfInBounds_toArray, List.set_cons_zero, List.set_cons_succ])
  refine wpSeq_alone rfl (fun K hK => ?_)
  go_wp2_with fail
  refine C1.mono ?_
  rintro e w1 ⟨rfl, rfl⟩
  refine hK _ _ w.drew (Ext.drew w) (Ext.refl _) ?_
  clear hK K C1
  iterate 7 (refine wpSeq_take rfl rfl (fun W hW => (by go_simp; with_reducible rfl)) ?_; simp only [List.setIfInBounds_toArray, List.set_cons_zero, List.set_cons_succ])
  refine wpSeq_nil ?_
  have hkd : Hid (Keep g w w.drew) := ⟨rfl, rfl, rfl, Nat.le_refl _, fun _ _ _ => rfl⟩
  by_cases he : er = 0
  · subst he
    have hbd := getN_bound bs at_ x nx hg'.out
    have hx32 : x < 4294967296 := hbd.2.2.2
    have hC := small_any (x : Int) w.drew
    clear hbd
    cases hp : okI (x : Int) with
    | true =>
      rw [hp] at hC
      have hres : Hid (numR bs at_ okI why = .ok (x, nx)) := by show _ = _; unfold numR; rw [hg'.out]; simp [hp]
      have hfz : w.drew.frozen? ⟨g, 1, none⟩ = false := HR.out.frozen 1
      have c1 : w.drew.cell? ⟨g, 1, none⟩ = some (.int .i64 (at_ : Int)) := E1 _ (Ext.drew w)
      go_wp2_with fail
      refine (ask_yes _ _).mono ?_
      rintro e w2 ⟨rfl, rfl⟩
      go_wp2_with fail
      refine hC.mono ?_
      rintro e w2 ⟨rfl, rfl⟩
      go_wp2_with fail
      refine (ask_yes _ _).mono ?_
      rintro e w2 ⟨rfl, rfl⟩
      clear hC
      go_wp2_with fail
      go_ret
      rw [hres.out]
      refine ⟨⟨rfl, rfl, rfl, by simp, fun k hk hne => Below.heap_setCell w.drew ⟨g, 1, none⟩ _ k (fun h => hne (by rw [h]))⟩, rfl, ?_⟩
      exact (Row.put (w := w.drew) (HR.out : Row w.drew g 73 _) 1 (.int .i64 nx))
    | false =>
      rw [hp] at hC
      have hres : Hid (numR bs at_ okI why = .error why) := by show _ = _; unfold numR; rw [hg'.out]; simp [hp]
      go_wp2_with fail
      refine (ask_yes _ _).mono ?_
      rintro e w2 ⟨rfl, rfl⟩
      go_wp2_with fail
      refine hC.mono ?_
      rintro e w2 ⟨rfl, rfl⟩
      go_wp2_with fail
      refine (ask_no _ _).mono ?_
      rintro e w2 ⟨rfl, rfl⟩
      clear hC
      go_wp2_with fail
      rw [hres.out]
      exact ⟨rfl, hkd.out, rfl⟩
  · have hf : ((er : Int) == 0) = false := by simp; omega
    have hres : Hid (numR bs at_ okI why = .error er) := by show _ = _; unfold numR; rw [hg'.out]; simp [he]
    go_wp2_with fail
    refine (ask_no _ _).mono ?_
    rintro e w2 ⟨rfl, rfl⟩
    go_wp2_with fail
    rw [hres.out]
    exact ⟨rfl, hkd.out, rfl⟩

set_option maxHeartbeats 1000000 in
set_option maxRecDepth 100000 in
theorem number_most (g : Nat) (A : Option Addr) (n c : Nat) (bs : List UInt8) (at_ : Nat) (why : Nat) (w : World) (hr : Rd w g A n c (at_ : Int)) (hb : Bytes w A n bs) (hA : ∀ a, A = some a → a.block ≠ g)
    (hn : n ≤ 100000000) (hnc : n ≤ c) (hcm : c ≤ 9223372036854775807) (hat : at_ ≤ n) :
    Calls Try.prog 62 #[.pointer (some ⟨g, 0, none⟩), .func (.func 63) #[] #[], .int .i64 (why : Int)] w (NumPost w g A n c (numR bs at_ okM why)) := by
  have H := hide hb
  have hl := hide hb.len
  have HR := hide hr
  have c0 := (hr.cell 0).trans (show _ = some (.slice A n c) from rfl)
  have c1 := (hr.cell 1).trans (show _ = some (.int .i64 (at_ : Int)) from rfl)
  have hfz := hr.frozen 1
  clear hb hr
  have C1 := get_any A n c bs (at_ : Int) w.drew (H.out.below (Ext.drew w)) hn hnc hcm (by omega) (by omega)
  unfold got at C1
  generalize hg : Code.getN bs (at_ : Int) = r at C1
  obtain ⟨x, nx, er⟩ := r
  dsimp only at C1
  have hg' := hide hg
  clear hg
  have E0 : ∀ W, Ext w W → W.cell? ⟨g, 0, none⟩ = some (.slice A n c) := fun W hW => (hW.cell HR.out.lt).trans c0
  have E1 : ∀ W, Ext w W → W.cell? ⟨g, 1, none⟩ = some (.int .i64 (at_ : Int)) := fun W hW => (hW.cell HR.out.lt).trans c1
  go_enter Try.func62, Try.ntmps62
  go_wp2_with fail
  clear c0 c1 hfz
  refine wp_region_seq [(0, false), (1, false), (2, false), (3, false), (4, false), (5, false), (6, false), (7, false), (8, true), (9, false), (10, false), (11, false), (12, false), (13, false), (14, false), (15, false)]
    (by kernel_rfl) (by kernel_rfl) (by kernel_rfl) rfl (by kernel_rfl) (fun _ _ d _ _ h => by cases d <;> exact h) ?_
  simp only [List.map_cons, List.map_nil, List.getElem?_cons_succ, List.getElem?_cons_zero, Option.getD_some]
  iterate 8 (refine wpSeq_take rfl rfl (fun W hW => (by have e0 := E0 W hW; have e1 := E1 W hW; go_simp; with_reducible rfl)) ?_; simp only [List.setIfInBounds_toArray, List.set_cons_zero, List.set_cons_succ])
  refine wpSeq_alone rfl (fun K hK => ?_)
  go_wp2_with fail
  refine C1.mono ?_
  rintro e w1 ⟨rfl, rfl⟩
  refine hK _ _ w.drew (Ext.drew w) (Ext.refl _) ?_
  clear hK K C1
  iterate 7 (refine wpSeq_take rfl rfl (fun W hW => (by go_simp; with_reducible rfl)) ?_; simp only [List.setIfInBounds_toArray, List.set_cons_zero, List.set_cons_succ])
  refine wpSeq_nil ?_
  have hkd : Hid (Keep g w w.drew) := ⟨rfl, rfl, rfl, Nat.le_refl _, fun _ _ _ => rfl⟩
  by_cases he : er = 0
  · subst he
    have hbd := getN_bound bs at_ x nx hg'.out
    have hx32 : x < 4294967296 := hbd.2.2.2
    have hC := most_any (x : Int) w.drew
    clear hbd
    cases hp : okM (x : Int) with
    | true =>
      rw [hp] at hC
      have hres : Hid (numR bs at_ okM why = .ok (x, nx)) := by show _ = _; unfold numR; rw [hg'.out]; simp [hp]
      have hfz : w.drew.frozen? ⟨g, 1, none⟩ = false := HR.out.frozen 1
      have c1 : w.drew.cell? ⟨g, 1, none⟩ = some (.int .i64 (at_ : Int)) := E1 _ (Ext.drew w)
      go_wp2_with fail
      refine (ask_yes _ _).mono ?_
      rintro e w2 ⟨rfl, rfl⟩
      go_wp2_with fail
      refine hC.mono ?_
      rintro e w2 ⟨rfl, rfl⟩
      go_wp2_with fail
      refine (ask_yes _ _).mono ?_
      rintro e w2 ⟨rfl, rfl⟩
      clear hC
      go_wp2_with fail
      go_ret
      rw [hres.out]
      refine ⟨⟨rfl, rfl, rfl, by simp, fun k hk hne => Below.heap_setCell w.drew ⟨g, 1, none⟩ _ k (fun h => hne (by rw [h]))⟩, rfl, ?_⟩
      exact (Row.put (w := w.drew) (HR.out : Row w.drew g 73 _) 1 (.int .i64 nx))
    | false =>
      rw [hp] at hC
      have hres : Hid (numR bs at_ okM why = .error why) := by show _ = _; unfold numR; rw [hg'.out]; simp [hp]
      go_wp2_with fail
      refine (ask_yes _ _).mono ?_
      rintro e w2 ⟨rfl, rfl⟩
      go_wp2_with fail
      refine hC.mono ?_
      rintro e w2 ⟨rfl, rfl⟩
      go_wp2_with fail
      refine (ask_no _ _).mono ?_
      rintro e w2 ⟨rfl, rfl⟩
      clear hC
      go_wp2_with fail
      rw [hres.out]
      exact ⟨rfl, hkd.out, rfl⟩
  · have hf : ((er : Int) == 0) = false := by simp; omega
    have hres : Hid (numR bs at_ okM why = .error er) := by show _ = _; unfold numR; rw [hg'.out]; simp [he]
    go_wp2_with fail
    refine (ask_no _ _).mono ?_
    rintro e w2 ⟨rfl, rfl⟩
    go_wp2_with fail
    rw [hres.out]
    exact ⟨rfl, hkd.out, rfl⟩

end Go.Proofs.Ytbfefjlilmoigaa
