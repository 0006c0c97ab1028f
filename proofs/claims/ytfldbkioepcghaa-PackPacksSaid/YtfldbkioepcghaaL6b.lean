/- How long a packed table's rows are. -/
import Derived.Test.YtfldbkioepcghaaL6
namespace Go.Proofs.Ytfldbkioepcghaa
set_option linter.unusedVariables false

theorem packE_lens (t : Tab) : (packE t).1.rows.length ≤ 1000000 ∧ (packE t).1.of.length ≤ 1000000 ∧ (packE t).1.gotos.length ≤ 1000000 ∧ (packE t).1.to.length ≤ 1000000 := by
  cases h : shapedT t with
  | false => rw [packE_bad h]; simp
  | true =>
    rw [packE_good h]
    obtain ⟨h1, h2, h3, h4⟩ := pack_small h
    obtain ⟨q1, q2, _⟩ := shaped_parts h
    refine ⟨?_, ?_, ?_, ?_⟩ <;> simp only <;> omega
end Go.Proofs.Ytfldbkioepcghaa
