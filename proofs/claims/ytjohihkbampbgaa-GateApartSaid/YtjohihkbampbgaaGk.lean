/- The chapter's laws without loops: contracts. -/
import Derived.Test.YtjohihkbampbgaaGpV
import Derived.Test.YtjohihkbampbgaaSw
namespace Go.Proofs.Ytjohihkbampbgaa
set_option linter.unusedVariables false
set_option linter.unusedSimpArgs false
set_option linter.unusedSectionVars false
open Go

def ctsG : List (Ctr U) := [cLoad, cStore, cCAS, cNew, cLast, cCount, cWords, cSameWords, cPick, cFill, cPass1, cPass2, cLastG]
theorem ctsG_all {p : Nat → Ctr U → Prop} (h0 : p 0 cLoad) (h1 : p 1 cStore) (h2 : p 2 cCAS) (h3 : p 3 cNew) (h4 : p 4 cLast) (h5 : p 5 cCount) (h6 : p 6 cWords) (h7 : p 7 cSameWords) (h8 : p 8 cPick) (h9 : p 9 cFill) (h10 : p 10 cPass1) (h11 : p 11 cPass2) (h12 : p 12 cLastG) : ∀ (ci : Nat) (c : Ctr U), ctsG[ci]? = some c → p ci c := by
  intro ci c h
  match ci, h with
  | 0, h => cases h; exact h0
  | 1, h => cases h; exact h1
  | 2, h => cases h; exact h2
  | 3, h => cases h; exact h3
  | 4, h => cases h; exact h4
  | 5, h => cases h; exact h5
  | 6, h => cases h; exact h6
  | 7, h => cases h; exact h7
  | 8, h => cases h; exact h8
  | 9, h => cases h; exact h9
  | 10, h => cases h; exact h10
  | 11, h => cases h; exact h11
  | 12, h => cases h; exact h12
  | n + 13, h => cases h
theorem hctsG : ∀ (ci : Nat) (c : Ctr U), ctsG[ci]? = some c → c.Holds objs Try.prog := ctsG_all hLoad hStore hCAS hNew hLast hCount hWords hSameWords hPick hFill hPass1 hPass2 hLastG
/-- is what a contract asks so? (enough for it) -/
def preG (ci : Nat) (ins : List (EV U)) : Bool :=
  match ci, ins with
  | 0, [.u (.mem _), .i _] => true
  | 1, [.u (.mem _), .i _, .i _] => true
  | 2, [.u (.mem _), .i _, .i _, .i _] => true
  | 3, [.i _] => true
  | 4, [.u (.mem _)] => true
  | 5, [.u (.mem _)] => true
  | 6, [.u (.mem _)] => true
  | 9, [.u (.mem _), .i _, .i _] => true
  | 10, [.u (.mem _), .i a, .i n] => decide (0 ≤ a) && decide (a ≤ 1099511627776) && decide (0 ≤ n) && decide (n ≤ 1099511627776)
  | 11, [.u (.mem _), .i a, .i n] => decide (0 ≤ a) && decide (a ≤ 1099511627776) && decide (0 ≤ n) && decide (n ≤ 1099511627776)
  | 12, [.u (.mem _), .i _, .i _, .i _] => true
  | 13, [] => true
  | _, _ => false
theorem preG_spec : ∀ (ci : Nat) (c : Ctr U) (ins : List (EV U)), ctsG[ci]? = some c → preG ci ins = true → c.pre ins := by
  intro ci c ins h hp
  revert hp
  revert ci c
  refine ctsG_all ?_ ?_ ?_ ?_ ?_ ?_ ?_ ?_ ?_ ?_ ?_ ?_ ?_
  all_goals
    intro hp
    unfold preG at hp
    split at hp <;> first | (cases hp; done) | (rename_i h; cases h; done) | skip
  all_goals first
    | exact ⟨_, rfl⟩
    | exact ⟨_, _, rfl⟩
    | exact ⟨_, _, _, rfl⟩
    | exact ⟨_, _, _, _, rfl⟩
    | (simp only [Bool.and_eq_true, decide_eq_true_eq] at hp; obtain ⟨⟨⟨h1, h2⟩, h3⟩, h4⟩ := hp; exact ⟨_, _, _, rfl, h1, h2, h3, h4⟩)
def cKnown : Ctr U :=
  { fn := 5, nin := 0, args := [], heap := [], pre := fun ins => ins = [], nout := 1, out := fun _ => [.b true], ret := .bool (.var 0), post := [] }
def cAwake : Ctr U :=
  { fn := 18, nin := 0, args := [], heap := [], pre := fun ins => ins = [], nout := 1, out := fun _ => [.b true], ret := .bool (.var 0), post := [] }
def cxG (P : Program) : Cx U := cx P ctsG
end Go.Proofs.Ytjohihkbampbgaa
