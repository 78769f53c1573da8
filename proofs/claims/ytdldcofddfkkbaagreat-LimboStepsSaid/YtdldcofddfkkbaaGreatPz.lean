/- Facts (printed by gen_lp.py). -/
import Derived.Test.YtdldcofddfkkbaaGreatPf
namespace Go.Proofs.YtdldcofddfkkbaaGreat
set_option linter.unusedVariables false
set_option linter.unusedSimpArgs false
set_option linter.unusedSectionVars false
open Go Go.RowKit
theorem mul_le {s a : Int} (h : 1 ≤ a ∧ a ≤ 4 ∧ 1 ≤ s ∧ s ≤ 128) : 0 ≤ s * (4 + a) ∧ s * (4 + a) ≤ 1024 := by
  obtain ⟨h1, h2, h3, h4⟩ := h
  have : a = 1 ∨ a = 2 ∨ a = 3 ∨ a = 4 := by omega
  rcases this with rfl | rfl | rfl | rfl <;> omega
theorem okT_facts {n h w s : Int} (hk : okT n h w s = true) : 1 ≤ w ∧ w ≤ 4 ∧ 1 ≤ s ∧ s ≤ 128 ∧ 0 ≤ n ∧ n < 4096 ∧ 0 ≤ h ∧ h < 4096 := of_decide_eq_true hk
end Go.Proofs.YtdldcofddfkkbaaGreat
