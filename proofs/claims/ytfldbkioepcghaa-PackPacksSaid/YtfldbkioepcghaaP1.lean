/- Plain laws: what was packed may be, unpacked is as it was, is told cell by cell; two states share a row just if their rows are the same. -/
import Derived.Test.YtfldbkioepcghaaT16
namespace Go.Proofs.Ytfldbkioepcghaa
set_option linter.unusedVariables false

theorem fold_ent : ∀ (l pre : List (Int × Int)), (entF l pre.length).foldl (fun l x => l.set x.1.toNat x.2) (pre ++ List.replicate l.length (0, 0)) = pre ++ l
  | [], pre => by simp [entF]
  | x :: l, pre => by
    have ih := fold_ent l (pre ++ [x])
    rw [List.length_append, List.length_singleton, List.append_assoc, List.append_assoc, List.singleton_append, List.singleton_append] at ih
    rw [entF]
    split
    · rename_i h
      subst h
      rw [List.length_cons, List.replicate_succ]
      exact ih
    · rw [List.foldl_cons, List.length_cons, List.replicate_succ, Int.toNat_natCast, List.set_append_right _ _ (Nat.le_refl _), Nat.sub_self, List.set_cons_zero]
      exact ih
theorem fold_edg : ∀ (l pre : List Int), (edgF l pre.length).foldl (fun l x => l.set x.1.toNat x.2) (pre ++ List.replicate l.length (-1)) = pre ++ l
  | [], pre => by simp [edgF]
  | x :: l, pre => by
    have ih := fold_edg l (pre ++ [x])
    rw [List.length_append, List.length_singleton, List.append_assoc, List.append_assoc, List.singleton_append, List.singleton_append] at ih
    rw [edgF]
    split
    · rename_i h
      subst h
      rw [List.length_cons, List.replicate_succ]
      exact ih
    · rw [List.foldl_cons, List.length_cons, List.replicate_succ, Int.toNat_natCast, List.set_append_right _ _ (Nat.le_refl _), Nat.sub_self, List.set_cons_zero]
      exact ih
theorem uRow_ent {terms : Int} {l : List (Int × Int)} (h : (l.length : Int) = terms + 1) : uRow terms (entF l 0) = l := by
  unfold uRow
  rw [← h, Int.toNat_natCast]
  exact fold_ent l []
theorem uGot_edg {nons : Int} {l : List Int} (h : (l.length : Int) = nons) : uGot nons (edgF l 0) = l := by
  unfold uGot
  rw [← h, Int.toNat_natCast]
  exact fold_edg l []

theorem ent_rise : ∀ (l : List (Int × Int)) (i : Nat) (most last : Int), last < i → (i : Int) + l.length ≤ most → riseL ((entF l i).map (·.1)) most last = true
  | [], i, most, last, _, _ => rfl
  | x :: l, i, most, last, h1, h2 => by
    rw [List.length_cons] at h2
    rw [entF]
    split
    · exact ent_rise l (i + 1) most last (by omega) (by omega)
    · have ih := ent_rise l (i + 1) most i (by omega) (by omega)
      rw [List.map_cons, riseL, ih, decide_eq_false (by omega), decide_eq_false (by omega)]
      rfl
theorem edg_rise : ∀ (l : List Int) (i : Nat) (most last : Int), last < i → (i : Int) + l.length ≤ most → riseL ((edgF l i).map (·.1)) most last = true
  | [], i, most, last, _, _ => rfl
  | x :: l, i, most, last, h1, h2 => by
    rw [List.length_cons] at h2
    rw [edgF]
    split
    · exact edg_rise l (i + 1) most last (by omega) (by omega)
    · have ih := edg_rise l (i + 1) most i (by omega) (by omega)
      rw [List.map_cons, riseL, ih, decide_eq_false (by omega), decide_eq_false (by omega)]
      rfl
theorem ent_full : ∀ (l : List (Int × Int)) (i : Nat), (entF l i).any pEmpty = false
  | [], i => rfl
  | x :: l, i => by
    rw [entF]
    split
    · exact ent_full l (i + 1)
    · rename_i h
      rw [List.any_cons, ent_full l (i + 1), Bool.or_false]
      unfold pEmpty
      by_cases h1 : x.1 = 0
      · by_cases h2 : x.2 = 0
        · exact absurd (Prod.ext h1 h2) h
        · simp [h2]
      · simp [h1]
theorem edg_full : ∀ (l : List Int) (i : Nat), (edgF l i).any pNone = false
  | [], i => rfl
  | x :: l, i => by
    rw [edgF]
    split
    · exact edg_full l (i + 1)
    · rename_i h
      rw [List.any_cons, edg_full l (i + 1), Bool.or_false]
      simp [pNone, h]
theorem ent_ok {terms : Int} {l : List (Int × Int)} (h : (l.length : Int) = terms + 1) : rowOk terms (entF l 0) = true := by
  unfold rowOk
  rw [ent_rise l 0 (terms + 1) (-1) (by omega) (by omega), ent_full]
  rfl
theorem edg_ok {nons : Int} {l : List Int} (h : (l.length : Int) = nons) : gotOk nons (edgF l 0) = true := by
  unfold gotOk
  rw [edg_rise l 0 nons (-1) (by omega) (by omega), edg_full]
  rfl

theorem ent_ge : ∀ (l : List (Int × Int)) (i : Nat), ∀ y ∈ entF l i, (i : Int) ≤ y.1
  | [], i, y, h => by simp [entF] at h
  | x :: l, i, y, h => by
    rw [entF] at h
    split at h
    · have := ent_ge l (i + 1) y h; omega
    · rcases List.mem_cons.1 h with rfl | h
      · exact Int.le_refl _
      · have := ent_ge l (i + 1) y h; omega
theorem edg_ge : ∀ (l : List Int) (i : Nat), ∀ y ∈ edgF l i, (i : Int) ≤ y.1
  | [], i, y, h => by simp [edgF] at h
  | x :: l, i, y, h => by
    rw [edgF] at h
    split at h
    · have := edg_ge l (i + 1) y h; omega
    · rcases List.mem_cons.1 h with rfl | h
      · exact Int.le_refl _
      · have := edg_ge l (i + 1) y h; omega
theorem ent_find : ∀ (l : List (Int × Int)) (i k : Nat) (x : Int × Int), l[k]? = some x → (entF l i).find? (pCol3 ((i + k : Nat) : Int)) = if x = (0, 0) then none else some (((i + k : Nat) : Int), x)
  | [], i, k, x, h => by simp at h
  | y :: l, i, 0, x, h => by
    obtain rfl : y = x := by simpa using h
    rw [entF]
    split
    · rw [List.find?_eq_none]
      intro z hz
      have := ent_ge l (i + 1) z hz
      simp [pCol3]
      omega
    · rw [List.find?_cons_of_pos (by simp [pCol3])]
      rfl
  | y :: l, i, k + 1, x, h => by
    have ih := ent_find l (i + 1) k x (by simpa using h)
    rw [show i + 1 + k = i + (k + 1) by omega] at ih
    rw [entF]
    split
    · exact ih
    · rw [List.find?_cons_of_neg (by simp [pCol3]; omega)]
      exact ih
theorem edg_find : ∀ (l : List Int) (i k : Nat) (x : Int), l[k]? = some x → (edgF l i).find? (pCol2 ((i + k : Nat) : Int)) = if x = -1 then none else some (((i + k : Nat) : Int), x)
  | [], i, k, x, h => by simp at h
  | y :: l, i, 0, x, h => by
    obtain rfl : y = x := by simpa using h
    rw [edgF]
    split
    · rw [List.find?_eq_none]
      intro z hz
      have := edg_ge l (i + 1) z hz
      simp [pCol2]
      omega
    · rw [List.find?_cons_of_pos (by simp [pCol2])]
      rfl
  | y :: l, i, k + 1, x, h => by
    have ih := edg_find l (i + 1) k x (by simpa using h)
    rw [show i + 1 + k = i + (k + 1) by omega] at ih
    rw [edgF]
    split
    · exact ih
    · rw [List.find?_cons_of_neg (by simp [pCol2]; omega)]
      exact ih

theorem shareF_out {α β : Type} [DecidableEq α] (pk : List β → List α) : ∀ (rs : List (List β)) (all : List (List α)) (of : List Int), ∃ (more : List (List α)) (nums : List Int),
    shareF pk rs all of = (all ++ more, of ++ nums) ∧ nums.length = rs.length ∧ more.length ≤ rs.length ∧ (∀ y ∈ more, ∃ r ∈ rs, y = pk r) ∧ (all.Nodup → (all ++ more).Nodup) ∧
      ∀ (j : Nat) (r : List β), rs[j]? = some r → ∃ z : Nat, nums[j]? = some (z : Int) ∧ (all ++ more)[z]? = some (pk r)
  | [], all, of => ⟨[], [], by simp [shareF], rfl, Nat.le_refl _, by simp, by simp, by simp⟩
  | r :: rs, all, of => by
    rw [shareF]
    rcases idxF_cases all (pk r) 0 with ⟨h1, h2⟩ | ⟨q, h1, h2⟩
    · rw [if_pos (by omega)]
      obtain ⟨more, nums, e, e1, e2, e3, e4, e5⟩ := shareF_out pk rs (all ++ [pk r]) (of ++ [(all.length : Int)])
      refine ⟨pk r :: more, (all.length : Int) :: nums, ?_, by simp [e1], by simp [e2], ?_, ?_, ?_⟩
      · rw [e]; simp
      · intro y hy
        rcases List.mem_cons.1 hy with rfl | hy
        · exact ⟨r, by simp, rfl⟩
        · obtain ⟨r', h3, h4⟩ := e3 y hy
          exact ⟨r', by simp [h3], h4⟩
      · intro hn
        have := e4 (by
          rw [List.nodup_append]
          refine ⟨hn, by simp, ?_⟩
          intro a ha b hb
          obtain rfl : b = pk r := by simpa using hb
          exact fun hab => h2 a ha hab.symm)
        simpa using this
      · intro j r' hj
        cases j with
        | zero =>
          obtain rfl : r = r' := by simpa using hj
          exact ⟨all.length, rfl, by simp⟩
        | succ j =>
          obtain ⟨z, hz1, hz2⟩ := e5 j r' (by simpa using hj)
          exact ⟨z, by simpa using hz1, by simpa using hz2⟩
    · rw [Nat.zero_add] at h1
      rw [if_neg (by omega), h1]
      obtain ⟨more, nums, e, e1, e2, e3, e4, e5⟩ := shareF_out pk rs all (of ++ [(q : Int)])
      refine ⟨more, (q : Int) :: nums, ?_, by simp [e1], by simp; omega, ?_, e4, ?_⟩
      · rw [e]; simp
      · intro y hy
        obtain ⟨r', h3, h4⟩ := e3 y hy
        exact ⟨r', by simp [h3], h4⟩
      · intro j r' hj
        cases j with
        | zero =>
          obtain rfl : r = r' := by simpa using hj
          have hq := (List.getElem?_eq_some_iff.1 h2).1
          exact ⟨q, rfl, by rw [List.getElem?_append_left hq]; exact h2⟩
        | succ j =>
          obtain ⟨z, hz1, hz2⟩ := e5 j r' (by simpa using hj)
          exact ⟨z, by simpa using hz1, hz2⟩
/-- What sharing gives, from nothing on. -/
theorem share_spec {α β : Type} [DecidableEq α] (pk : List β → List α) (rs : List (List β)) : (shareF pk rs [] []).2.length = rs.length ∧ (shareF pk rs [] []).1.length ≤ rs.length ∧ (∀ y ∈ (shareF pk rs [] []).1, ∃ r ∈ rs, y = pk r) ∧ (shareF pk rs [] []).1.Nodup ∧
    ∀ (j : Nat) (r : List β), rs[j]? = some r → ∃ z : Nat, (shareF pk rs [] []).2[j]? = some (z : Int) ∧ (shareF pk rs [] []).1[z]? = some (pk r) := by
  obtain ⟨more, nums, e, e1, e2, e3, e4, e5⟩ := shareF_out pk rs [] []
  rw [e]
  exact ⟨by simpa using e1, by simpa using e2, by simpa using e3, by simpa using e4 (by simp), by simpa using e5⟩
theorem share_nums {α β : Type} [DecidableEq α] (pk : List β → List α) (rs : List (List β)) : numsL (shareF pk rs [] []).2 ((shareF pk rs [] []).1.length : Int) = true := by
  obtain ⟨e1, _, _, _, e5⟩ := share_spec pk rs
  unfold numsL
  rw [Bool.not_eq_true', List.any_eq_false]
  intro z hz
  obtain ⟨j, hj⟩ := List.getElem?_of_mem hz
  have hjl := (List.getElem?_eq_some_iff.1 hj).1
  obtain ⟨z', h1, h2⟩ := e5 j (rs[j]'(by omega)) (List.getElem?_eq_getElem (by omega))
  rw [hj] at h1
  obtain rfl := Option.some.inj h1
  have hzl := (List.getElem?_eq_some_iff.1 h2).1
  simp [pOut]
  omega
theorem nodup_at {α : Type} {l : List α} (h : l.Nodup) {a b : Nat} {x : α} (ha : l[a]? = some x) (hb : l[b]? = some x) : a = b := by
  obtain ⟨h1, h2⟩ := List.getElem?_eq_some_iff.1 ha
  obtain ⟨h3, h4⟩ := List.getElem?_eq_some_iff.1 hb
  exact (List.getElem_inj h).1 (h2.trans h4.symm)

theorem shaped_parts {t : Tab} (h : shapedT t = true) : 1 ≤ t.acts.length ∧ t.acts.length ≤ 300 ∧ t.gots.length = t.acts.length ∧ evenL t.acts 1 25 = true ∧ evenL t.gots 0 16 = true := by
  unfold shapedT at h
  simp only [Bool.and_eq_true, decide_eq_true_eq] at h
  exact h
theorem even_parts {α : Type} {ll : List (List α)} {a b : Nat} (h : evenL ll a b = true) {r : List α} (hr : r ∈ ll) : r.length = (ll.headD []).length ∧ a ≤ r.length ∧ r.length ≤ b := by
  have := List.all_eq_true.1 h r hr
  unfold evenR at this
  simpa [and_assoc] using this
theorem acts_len {t : Tab} (h : shapedT t = true) {r : List (Int × Int)} (hr : r ∈ t.acts) : (r.length : Int) = (packT t).terms + 1 := by
  have := (even_parts (shaped_parts h).2.2.2.1 hr).1
  unfold packT
  simp only
  omega
theorem gots_len {t : Tab} (h : shapedT t = true) {r : List Int} (hr : r ∈ t.gots) : (r.length : Int) = (packT t).nons := by
  have := (even_parts (shaped_parts h).2.2.2.2 hr).1
  unfold packT
  simp only
  omega
theorem mem_head {α : Type} {ll : List (List α)} (h : 1 ≤ ll.length) : ll.headD [] ∈ ll := by
  cases ll with
  | nil => simp at h
  | cons x l => simp
theorem pack_right {t : Tab} (h : shapedT t = true) : rightP (packT t) = true := by
  obtain ⟨h1, h2, h3, h4, h5⟩ := shaped_parts h
  obtain ⟨_, a1, a2⟩ := even_parts h4 (mem_head h1)
  obtain ⟨_, b1, b2⟩ := even_parts h5 (mem_head (by omega : 1 ≤ t.gots.length))
  obtain ⟨s1, s2, s3, _, _⟩ := share_spec (fun r => entF r 0) t.acts
  obtain ⟨g1, g2, g3, _, _⟩ := share_spec (fun r => edgF r 0) t.gots
  have n1 := share_nums (fun r => entF r 0) t.acts
  have n2 := share_nums (fun r => edgF r 0) t.gots
  have r1 : (packT t).rows.all (rowOk (packT t).terms) = true := by
    rw [List.all_eq_true]
    intro y hy
    obtain ⟨r, hr, rfl⟩ := s3 y hy
    exact ent_ok (acts_len h hr)
  have r2 : (packT t).gotos.all (gotOk (packT t).nons) = true := by
    rw [List.all_eq_true]
    intro y hy
    obtain ⟨r, hr, rfl⟩ := g3 y hy
    exact edg_ok (gots_len h hr)
  unfold rightP
  rw [r1, r2, show numsL (packT t).of ((packT t).rows.length : Int) = true from n1, show numsL (packT t).to ((packT t).gotos.length : Int) = true from n2]
  have e1 : (packT t).terms = ((t.acts.headD []).length : Int) - 1 := rfl
  have e2 : (packT t).nons = ((t.gots.headD []).length : Int) := rfl
  have e3 : (packT t).of.length = t.acts.length := s1
  have e4 : (packT t).to.length = t.gots.length := g1
  have e5 : (packT t).rows.length ≤ t.acts.length := s2
  have e6 : (packT t).gotos.length ≤ t.gots.length := g2
  rw [decide_eq_true (show 0 ≤ (packT t).terms by omega), decide_eq_true (show (packT t).terms ≤ 24 by omega), decide_eq_true (show 0 ≤ (packT t).nons by omega), decide_eq_true (show (packT t).nons ≤ 16 by omega), decide_eq_true (show 1 ≤ (packT t).of.length by omega),
    decide_eq_true (show (packT t).of.length ≤ 300 by omega), decide_eq_true (show (packT t).to.length = (packT t).of.length by omega), decide_eq_true (show (packT t).rows.length ≤ 300 by omega), decide_eq_true (show (packT t).gotos.length ≤ 300 by omega)]
  rfl
theorem row_at {α : Type} {l : List α} {z : Nat} {x : α} (h : l[z]? = some x) : rowAt l (z : Int) = some x := by
  unfold rowAt
  rw [if_pos (by omega), Int.toNat_natCast]
  exact h
theorem map_self {α β : Type} {nums : List Int} {rs : List α} (g : Int → α) (hl : nums.length = rs.length) (h : ∀ (j : Nat) (r : α), rs[j]? = some r → ∃ z, nums[j]? = some z ∧ g z = r) : nums.map g = rs := by
  apply List.ext_getElem?
  intro j
  rw [List.getElem?_map]
  rcases Nat.lt_or_ge j rs.length with hj | hj
  · obtain ⟨z, h1, h2⟩ := h j rs[j] (List.getElem?_eq_getElem hj)
    rw [h1, List.getElem?_eq_getElem hj, Option.map_some, h2]
  · rw [List.getElem?_eq_none (by omega), List.getElem?_eq_none hj]
    rfl
theorem tab_ext {t u : Tab} (h1 : t.acts = u.acts) (h2 : t.gots = u.gots) : t = u := by
  cases t
  cases u
  cases h1
  cases h2
  rfl
theorem unpack_pack {t : Tab} (h : shapedT t = true) : unpackT (packT t) = t := by
  obtain ⟨s1, _, _, _, s5⟩ := share_spec (fun r => entF r 0) t.acts
  obtain ⟨g1, _, _, _, g5⟩ := share_spec (fun r => edgF r 0) t.gots
  have e1 : (unpackT (packT t)).acts = t.acts := map_self (β := Int) _ s1 fun j r hr => by
    obtain ⟨z, h1, h2⟩ := s5 j r hr
    refine ⟨(z : Int), h1, ?_⟩
    rw [row_at (l := (packT t).rows) h2, Option.getD_some]
    exact uRow_ent (acts_len h (List.mem_of_getElem? hr))
  have e2 : (unpackT (packT t)).gots = t.gots := map_self (β := Int) _ g1 fun j r hr => by
    obtain ⟨z, h1, h2⟩ := g5 j r hr
    refine ⟨(z : Int), h1, ?_⟩
    rw [row_at (l := (packT t).gotos) h2, Option.getD_some]
    exact uGot_edg (gots_len h (List.mem_of_getElem? hr))
  exact tab_ext e1 e2
theorem act_pack {t : Tab} (h : shapedT t = true) {i k : Nat} {r : List (Int × Int)} {x : Int × Int} (hr : t.acts[i]? = some r) (hx : r[k]? = some x) : actP (packT t) (i : Int) (k : Int) = x := by
  obtain ⟨s1, _, _, _, s5⟩ := share_spec (fun r => entF r 0) t.acts
  obtain ⟨z, h1, h2⟩ := s5 i r hr
  have hi := (List.getElem?_eq_some_iff.1 hr).1
  have hf := ent_find r 0 k x hx
  rw [Nat.zero_add] at hf
  unfold actP
  rw [pack_right h, decide_eq_true (show (0 : Int) ≤ (i : Int) by omega), decide_eq_true (show (i : Int) < ((packT t).of.length : Int) by show (i : Int) < ((shareF (fun r => entF r 0) t.acts [] []).2.length : Int); omega), row_at (l := (packT t).of) h1, Option.bind_some, row_at (l := (packT t).rows) h2]
  simp only [Bool.and_self, if_true, hf]
  split <;> rename_i he <;> split at he
  · cases he
  · cases he; rfl
  · rename_i h0; exact h0.symm
  · cases he
theorem got_pack {t : Tab} (h : shapedT t = true) {i k : Nat} {r : List Int} {x : Int} (hr : t.gots[i]? = some r) (hx : r[k]? = some x) : gotP (packT t) (i : Int) (k : Int) = x := by
  obtain ⟨s1, _, _, _, s5⟩ := share_spec (fun r => edgF r 0) t.gots
  obtain ⟨a1, _, _, _, _⟩ := share_spec (fun r => entF r 0) t.acts
  obtain ⟨z, h1, h2⟩ := s5 i r hr
  have hi := (List.getElem?_eq_some_iff.1 hr).1
  have hlen := (shaped_parts h).2.2.1
  have hf := edg_find r 0 k x hx
  rw [Nat.zero_add] at hf
  unfold gotP
  rw [pack_right h, decide_eq_true (show (0 : Int) ≤ (i : Int) by omega), decide_eq_true (show (i : Int) < ((packT t).of.length : Int) by show (i : Int) < ((shareF (fun r => entF r 0) t.acts [] []).2.length : Int); omega), row_at (l := (packT t).to) h1, Option.bind_some, row_at (l := (packT t).gotos) h2]
  simp only [Bool.and_self, if_true, hf]
  split <;> rename_i he <;> split at he
  · cases he
  · cases he; rfl
  · rename_i h0; exact h0.symm
  · cases he
theorem once_acts {t : Tab} (h : shapedT t = true) {i k : Nat} {r s : List (Int × Int)} (hr : t.acts[i]? = some r) (hs : t.acts[k]? = some s) : ∃ a b : Nat, (packT t).of[i]? = some (a : Int) ∧ (packT t).of[k]? = some (b : Int) ∧ (a = b ↔ r = s) := by
  obtain ⟨_, _, _, s4, s5⟩ := share_spec (fun r => entF r 0) t.acts
  obtain ⟨a, h1, h2⟩ := s5 i r hr
  obtain ⟨b, h3, h4⟩ := s5 k s hs
  refine ⟨a, b, h1, h3, ?_, ?_⟩
  · rintro rfl
    have he : entF r 0 = entF s 0 := Option.some.inj (h2.symm.trans h4)
    rw [← uRow_ent (acts_len h (List.mem_of_getElem? hr)), he, uRow_ent (acts_len h (List.mem_of_getElem? hs))]
  · rintro rfl
    exact nodup_at s4 h2 h4
theorem once_gots {t : Tab} (h : shapedT t = true) {i k : Nat} {r s : List Int} (hr : t.gots[i]? = some r) (hs : t.gots[k]? = some s) : ∃ a b : Nat, (packT t).to[i]? = some (a : Int) ∧ (packT t).to[k]? = some (b : Int) ∧ (a = b ↔ r = s) := by
  obtain ⟨_, _, _, s4, s5⟩ := share_spec (fun r => edgF r 0) t.gots
  obtain ⟨a, h1, h2⟩ := s5 i r hr
  obtain ⟨b, h3, h4⟩ := s5 k s hs
  refine ⟨a, b, h1, h3, ?_, ?_⟩
  · rintro rfl
    have he : edgF r 0 = edgF s 0 := Option.some.inj (h2.symm.trans h4)
    rw [← uGot_edg (gots_len h (List.mem_of_getElem? hr)), he, uGot_edg (gots_len h (List.mem_of_getElem? hs))]
  · rintro rfl
    exact nodup_at s4 h2 h4
theorem pack_lens {t : Tab} (h : shapedT t = true) : (packT t).of.length = t.acts.length ∧ (packT t).to.length = t.gots.length :=
  ⟨(share_spec (fun r => entF r 0) t.acts).1, (share_spec (fun r => edgF r 0) t.gots).1⟩
end Go.Proofs.Ytfldbkioepcghaa
