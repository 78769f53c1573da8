/- The chapter's examples that each law tries: they are so. -/
import Derived.Test.YtjohihkbampbgaaGkT
namespace Go.Proofs.Ytjohihkbampbgaa
set_option linter.unusedVariables false
set_option linter.unusedSimpArgs false
set_option linter.unusedSectionVars false
open Go

set_option maxRecDepth 100000 in
theorem vAwake (P : Program) (hs : List (Nat × Nat × List Nat)) : ∀ ins, ins.length = cAwake.nin → cAwake.pre ins → tAwake.sat { cxG P with hints := hs } (ctrR cAwake) ins := by
  rintro ins _ rfl
  refine satB_sound (preB := preG) (RB := fun _ o => oneB o) preG_spec (fun e o h => ?_) _ _ (by kernel_rfl)
  exact oneB_spec h
theorem hAwake : cAwake.Holds objs Try.prog := runCtr_holds (X := cxG Try.prog) objsOk mixed hctsG (callable _ Try.func18 (by kernel_rfl) (by kernel_rfl)) (by rintro ins _ rfl; rfl) (by rw [rAwake]; exact vAwake _ _)
def ctsH : List (Ctr U) := ctsG ++ [cAwake]
theorem hctsH : ∀ (ci : Nat) (c : Ctr U), ctsH[ci]? = some c → c.Holds objs Try.prog := by
  intro ci c h
  by_cases hlt : ci < 13
  · exact hctsG ci c (by rw [← h, ctsH, List.getElem?_append_left (by exact hlt)])
  · rw [ctsH, List.getElem?_append_right (by show 13 ≤ ci; omega)] at h
    match e : ci - ctsG.length, h with
    | 0, h => cases h; exact hAwake
    | n + 1, h => cases h
theorem preH_spec : ∀ (ci : Nat) (c : Ctr U) (ins : List (EV U)), ctsH[ci]? = some c → preG ci ins = true → c.pre ins := by
  intro ci c ins h hp
  by_cases hlt : ci < 13
  · exact preG_spec ci c ins (by rw [← h, ctsH, List.getElem?_append_left (by exact hlt)]) hp
  · rw [ctsH, List.getElem?_append_right (by show 13 ≤ ci; omega)] at h
    match e : ci - ctsG.length, h with
    | 0, h =>
      have : ci = 13 := by have : ctsG.length = 13 := rfl; omega
      subst this
      cases h
      match ins, hp with
      | [], _ => rfl
    | n + 1, h => cases h
def cxH (P : Program) : Cx U := cx P ctsH
def cGNew : Ctr U :=
  { fn := 3, nin := 5, args := [.agg [.int .i64 (.var 0), .int .i64 (.var 1)], .int .i64 (.var 2), .int .i64 (.var 3), .int .i64 (.var 4)], heap := [], pre := fun ins => ∃ a b c d e, ins = [.i a, .i b, .i c, .i d, .i e], nout := 1, out := fun _ => [.b true], ret := .bool (.var 5), post := [] }
def cGNone : Ctr U :=
  { fn := 4, nin := 1, args := [.int .i64 (.var 0)], heap := [], pre := fun ins => ∃ a, ins = [.i a], nout := 1, out := fun _ => [.b true], ret := .bool (.var 1), post := [] }
end Go.Proofs.Ytjohihkbampbgaa
