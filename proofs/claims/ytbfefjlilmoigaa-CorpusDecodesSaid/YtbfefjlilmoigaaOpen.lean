/- Arguments as data: how a slice of bytes, and one of numbers, that came in reads as a list. -/
import Derived.Test.YtbfefjlilmoigaaBase
import Derived.ProofKit
import Derived.OpenShut
import Derived.ShutString
import Derived.ChangeOld
import Derived.SizedLaws
namespace Go.Proofs.Ytbfefjlilmoigaa
open Go.ChangeShapes Go.WideShapes Go.ChangeAt Go.RowKit
set_option linter.unusedVariables false

theorem own : ownKnob Try.prog.godebug = none := by kernel_rfl
theorem laidOut : laidOutB Try.prog = true := by kernel_rfl

section
variable {H : Type} {enc : TypeId × Value → H} {W : World}

theorem elems_of_cells {x : Addr} {len : Nat} {us : List Value} (hl : us.length = len) (hc : ∀ i u, us[i]? = some u → W.cell? (x.add i) = some u) : Elems W (some x) len us := by
  refine ⟨hl, fun hp => ?_⟩
  obtain ⟨b, off, spot⟩ := x
  have h0 : us[0]? = some (us[0]'(by omega)) := List.getElem?_eq_getElem (by omega)
  have hc0 := hc 0 _ h0
  have hspot : spot = none := by simpa [Addr.add] using World.cell?_spot hc0
  subst hspot
  exact ⟨b, off, rfl, fun j u hu => by rw [← Addr.add_lit']; exact hc j u hu⟩

theorem u8_of_int (n : Int) (h : (Lit.int .u8 n).wf = true) : ((UInt8.ofNat n.toNat).toNat : Int) = n := by
  have := bounds_u8 h
  rw [UInt8.toNat_ofNat']
  omega

theorem open_bytes {a : Option Addr} {len cap : Nat} {d : DataW H} {p : List MemPlace} (h : DataW.Trod enc Try.prog W 0 (fun _ => true) true 22 (.slice a len cap) d p) :
    ∃ bs : List UInt8, Bytes W a len bs ∧ len ≤ cap ∧ cap ≤ maxLen ∧ (len = 0 ∨ ∃ es sp, d = .slice es sp ∧ es.length = len) := by
  obtain ⟨fuel, hf⟩ := h
  rcases open_ints Try.underlying22 Try.underlying5 (by kernel_rfl) hf with ⟨hcs, _⟩ | ⟨x, l, c, zs, hcs, _, hl, hm, hz, hx, hcell, hwz⟩
  · simp [Value.cells] at hcs
    obtain ⟨rfl, rfl, rfl⟩ := hcs
    exact ⟨[], Elems.nil _ _, by omega, by unfold maxLen; omega, .inl rfl⟩
  · simp [Value.cells] at hcs
    obtain ⟨rfl, rfl, rfl⟩ := hcs
    simp only [if_true] at hz
    refine ⟨(zs.take len).map fun n => UInt8.ofNat n.toNat, elems_of_cells (by rw [u8s_length, List.length_map, List.length_take]; omega) ?_, hl, hm, .inr ⟨_, _, (Prod.mk.inj hx).1, by simp [lits]; omega⟩⟩
    intro i u hu
    simp only [u8s, List.map_map, List.getElem?_map, Option.map_eq_some_iff, Function.comp] at hu
    obtain ⟨z, hz1, rfl⟩ := hu
    rw [List.getElem?_take] at hz1
    split at hz1
    · rename_i hil
      have hiz : i < zs.length := by omega
      rw [hcell i hiz]
      rw [List.getElem?_eq_getElem hiz] at hz1
      injection hz1 with hz1
      have hw := hwz z (hz1 ▸ List.getElem_mem hiz)
      rw [u8_of_int z hw]
      simp [List.getD, List.getElem?_eq_getElem hiz, hz1]
    · cases hz1

theorem reach_of {ts : List TypeId} {ds : List (DataW H)} {len : Nat} {d : DataW H} {t e j : Nat} (h : (DataW.weightsEach Try.prog ts ds).all (· ≤ reachBytes) = true) (ht : ts[j]? = some t) (hd : ds[j]? = some d)
    (hu : Try.prog.underlying t = some (.slice e)) (hb : 1 ≤ Try.prog.bytesOf e) (hl : len = 0 ∨ ∃ es sp, d = .slice es sp ∧ es.length = len) : len ≤ 140737488351232 := by
  rcases hl with rfl | ⟨es, sp, rfl, rfl⟩
  · omega
  · have h1 := sized_slice h ht hd hu
    have h2 : es.length + sp.length ≤ (es.length + sp.length) * Try.prog.bytesOf e := Nat.le_mul_of_pos_right _ hb
    simp only [reachBytes] at h1
    omega

end
end Go.Proofs.Ytbfefjlilmoigaa
