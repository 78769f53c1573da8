/- A memory that is none: the law holds. -/
import Derived.Test.YtbkaclkbjpdfnaaClT
namespace Go.Proofs.Ytbkaclkbjpdfnaa
set_option linter.unusedVariables false
set_option linter.unusedSimpArgs false
set_option linter.unusedSectionVars false
open Go Go.RowKit

theorem hctsL : ∀ (ci : Nat) (c : Ctr U), ctsL[ci]? = some c → c.Holds objs Try.prog := by
  intro ci c h
  by_cases hlt : ci < 13
  · exact hctsC ci c (by rw [← h, ctsL, List.getElem?_append_left (by exact hlt)])
  · rw [ctsL, List.getElem?_append_right (by show 13 ≤ ci; omega)] at h
    match e : ci - ctsC.length, h with
    | 0, h => cases h; exact hAwake
    | 1, h => cases h; exact hKnown
    | 2, h => cases h; exact hRLoad
    | 3, h => cases h; exact hRStore
    | 4, h => cases h; exact hRCAS
    | 5, h => cases h; exact hRAdd
    | n + 6, h => cases h
theorem vNone (P : Program) : ∀ ins, ins.length = cNone.nin → cNone.pre ins → tNone.sat (cxL P) (ctrR cNone) ins := by
  rintro ins _ ⟨at_, a, b, rfl⟩
  exact ⟨rfl, rfl⟩
theorem hNone : cNone.Holds objs Try.prog := runCtr_holds (X := cxL Try.prog) objsOk mixed hctsL (callable _ Try.func7 (by kernel_rfl) (by kernel_rfl)) (by rintro ins _ ⟨at_, a, b, rfl⟩; rfl) (by rw [rNone]; exact vNone _)
theorem cellsNone_walk (x a b : Int) (W : World) (ha : isW a) (hb : isW b) : Calls Try.prog 7 #[.int .i64 x, .int .u64 a, .int .u64 b] W fun e W' => e = .returned (.bool true) ∧ Below W.heap.size W W' :=
  hNone.law rfl (ins := [.i x, .i a, .i b]) (ρ := []) (vals := [.int .i64 x, .int .u64 a, .int .u64 b]) rfl ⟨x, a, b, rfl⟩ rfl
    ⟨fun _ _ => rfl, trivial, trivial, trivial, trivial⟩ (Sat.inputs rfl (by intro n e h; simp [cNone] at h))
end Go.Proofs.Ytbkaclkbjpdfnaa
