/- Epochs: the chapter's examples are so: the run is reckoned. -/
import Derived.Test.YtjohihkbampbgaaEa
namespace Go.Proofs.Ytjohihkbampbgaa
set_option linter.unusedVariables false
set_option linter.unusedSimpArgs false
set_option linter.unusedSectionVars false
open Go Go.RowKit

def hintsE : List (Nat × Nat × List Nat) := [(95, 3, [1000000 + 118, 1000000 + 120, 1000000 + 122]), (122, 5, [1000000 + 122])]
set_option maxRecDepth 1000000 in
theorem kEAwake : ∀ cs, (runCtr { cxE Try.prog with hints := hintsE } 40 cEAwake [] []).satC { cxE Try.prog with hints := hintsE } preM okN (fun _ o => oneB o) cs 0 [] [] = true := by intro cs; kernel_rfl
set_option maxRecDepth 100000 in
theorem hEAwake : cEAwake.Holds objs Try.prog := runCtr_holds (X := { cxE Try.prog with hints := hintsE }) (fuel := 40) (opens := []) (folds := []) objsOk mixed hctsM (callable _ Try.func58 (by kernel_rfl) (by kernel_rfl)) (by rintro ins _ rfl; rfl)
  (by
    rintro ins _ rfl
    refine satC_sound (RB := fun _ o => oneB o) (preB := preM) (okB := okN) ?_ ?_ ?_ _ 0 [] [] CapsOk.nil ?_
    · exact preM_spec
    · exact okN_spec
    · exact fun e o h => oneB_spec h
    · exact kEAwake)
def ctsEA : List (Ctr U) := ctsM ++ [cEAwake]
theorem hctsEA : ∀ (ci : Nat) (c : Ctr U), ctsEA[ci]? = some c → c.Holds objs Try.prog := ctsApp hctsM (by intro ci c h; match ci, h with | 0, h => cases h; exact hEAwake | n + 1, h => cases h)
def preEA (ci : Nat) (ins : List (EV U)) : Bool := match ci, ins with | 9, [] => true | ci, ins => preM ci ins
theorem preEA_spec : ∀ (ci : Nat) (c : Ctr U) (ins : List (EV U)), ctsEA[ci]? = some c → preEA ci ins = true → c.pre ins := by
  intro ci c ins h hp
  unfold preEA at hp
  split at hp
  · cases h; rfl
  · rename_i hn
    by_cases hlt : ci < 9
    · exact preM_spec ci c ins (by rw [← h, ctsEA, List.getElem?_append_left (by exact hlt)]) hp
    · unfold preM at hp
      split at hp <;> first | (cases hp; done) | omega
def cxEA (P : Program) : Cx U := cx P ctsEA
set_option maxRecDepth 1000000 in
theorem kEKnown : ∀ cs, (runCtr { cxEA Try.prog with hints := hintsE } 40 cEKnown [] []).satC { cxEA Try.prog with hints := hintsE } preEA okN (fun _ o => oneB o) cs 0 [] [] = true := by intro cs; kernel_rfl
set_option maxRecDepth 100000 in
theorem hEKnown : cEKnown.Holds objs Try.prog := runCtr_holds (X := { cxEA Try.prog with hints := hintsE }) (fuel := 40) (opens := []) (folds := []) objsOk mixed hctsEA (callable _ Try.func9 (by kernel_rfl) (by kernel_rfl)) (by rintro ins _ rfl; rfl)
  (by
    rintro ins _ rfl
    refine satC_sound (RB := fun _ o => oneB o) (preB := preEA) (okB := okN) ?_ ?_ ?_ _ 0 [] [] CapsOk.nil ?_
    · exact preEA_spec
    · exact okN_spec
    · exact fun e o h => oneB_spec h
    · exact kEKnown)
theorem epochKnown_walk (W : World) : Calls Try.prog 9 #[] W fun e W' => e = .returned (.bool true) ∧ Below W.heap.size W W' :=
  hEKnown.law0 rfl rfl rfl rfl rfl rfl W
end Go.Proofs.Ytjohihkbampbgaa
