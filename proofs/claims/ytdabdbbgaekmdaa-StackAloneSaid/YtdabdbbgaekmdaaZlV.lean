/- Stacks: alone each ends: small facts. -/
import Derived.Test.YtdabdbbgaekmdaaZlTd
namespace Go.Proofs.Ytdabdbbgaekmdaa
set_option linter.unusedVariables false
set_option linter.unusedSimpArgs false
set_option linter.unusedSectionVars false
open Go Go.RowKit

theorem ab_begin {M : MemSt} {t i : Int} {o : CoreP} (h : o.ln = 1) (hi : 0 ≤ i) : abOk M t o 0 0 i := ⟨⟨by omega, hi, by omega, hi⟩, .inr (.inl ⟨h, by omega⟩)⟩
theorem cas_cases {M M' : MemSt} {t : Int} (hE : M'.word t = M.word t ∨ M'.k = 3 ∧ M'.h = true) : (M'.k = 3 ∧ M'.h = true ∧ True) ∨ (M'.k = 3 ∧ M'.h = false ∧ M'.word t = M.word t) ∨ (¬ M'.k = 3 ∧ True ∧ M'.word t = M.word t) := by
  by_cases e1 : M'.k = 3
  · cases e2 : M'.h
    · exact .inr (.inl ⟨e1, rfl, hE.resolve_right (fun e => by rw [e2] at e; exact absurd e.2 Bool.false_ne_true)⟩)
    · exact .inl ⟨e1, rfl, trivial⟩
  · exact .inr (.inr ⟨e1, trivial, hE.resolve_right (fun e => e1 e.1)⟩)
theorem ln_all {t l n : Int} : (CoreP.all (newAl t l n)).ln = 1 := by simp [CoreP.ln, newAl]
theorem ln_push {M : MemSt} {t l n k : Int} {b c : CoreT} {H : List Int} {y x : Int} (g : Geo t l n) (h : SInv M t l n k ⟨.none, H ++ [x], y⟩ b c) : (CoreP.push (newPu t l n x)).ln = 1 := by
  have hx := own_range h x (show x ∈ H ++ [x] by simp)
  simp only [CoreP.ln, newPu]
  rw [if_neg (by omega)]
end Go.Proofs.Ytdabdbbgaekmdaa
